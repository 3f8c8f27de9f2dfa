/-
  Part of the proof of StoreWhole.
-/
import Derived.Test.YtjbiihbicknemaaGreatMSto
set_option linter.unusedSimpArgs false
set_option linter.unusedVariables false
set_option maxRecDepth 20000
set_option maxHeartbeats 40000000
namespace Go.Proofs.YtjbiihbicknemaaGreat
open Go.RowKit Go.Sep
variable {W w:World} {L:List aA}
attribute [local irreducible] Oper.wp wpList Calls Code.wp Sep.dR Sep.fJ
def posOf:List Nat->Nat->Nat
 |[],_=>0
 |x::l,a=>if x=a then 0 else posOf l a+1
theorem abm:∀(l:List Nat),l.Nodup->∀(i a:Nat),l[i]? =some a->posOf l a=i
 |[],_,i,a,h=>by simp at h
 |x::l,hn,i,a,h=>by
  unfold posOf
  cases i with
  |zero=>
   simp at h;rw[if_pos h]
  |succ i=>
   rw[xO] at h;have hm:=bJ h;have hne:x≠a:=fun e=>(List.nodup_cons.1 hn).1 (e▸hm)
   rw[if_neg hne,abm l (List.nodup_cons.1 hn).2 i a h]
theorem abn:∀(l:List Nat) (a:Nat),a∉l->posOf l a=l.length
 |[],_,_=>rfl
 |x::l,a,h=>by
  unfold posOf
  have hne:x≠a:=by
   rintro rfl;exact h (List.mem_cons_self ..)
  rw[if_neg hne,abn l a (fun hm=>h (List.mem_cons_of_mem _ hm))];rfl
def lU (gs:List Nat) (i:Nat):Nat:=gs[i]?.getD 0
def Fx (gs:List Nat):Nat->Nat
 |0=>0
 |i+1=>lU gs i
def E5 (l:List bM):Nat->Nat
 |0=>0
 |i+1=>(chunk l i).length
theorem bA.pos {B:List (List UInt8)} {S:aK} {gs:List Nat} (h:bA B S gs) {i:Nat} (hi:i<=gs.length):posOf gs (lU gs i)=i:=by
 have hn:=(lZ.1 h.nd).2.1;unfold lU
 cases hg:gs[i]? with
 |some g=>exact abm gs hn i g hg
 |none=>
  have hl:gs.length<=i:=List.getElem?_eq_none_iff.1 hg;rw[show i=gs.length by omega];refine abn gs 0 fun hm=>?_
  have:=(h.gU 0 (nD _ hm)).1;omega
theorem abH (O:Sat W w L) (b:List UInt8) (ao:Option Addr) (c:Nat) {m:Nat} (hm:b.length=m) (hr:∀w,Sat W w L->Rd w (.slice ao m c) m 1 (bv b)) (hb:m<=140737488355328) {l:List bM} {x:Int} (I:BF b=l) (H:BG b=x) (h3:lW b=true):
  Calls Tryz.prog 101 #[.slice ao m c] w fun e w'=>∃v',e= .returned (.tuple #[v', .int .i64 x, .bool true])/\Sat W w' (Tb 100 3 rv v' l::L):=by
 subst hm I H;rw[<-h3];exact amo O b ao c hr hb
def ChI (W:World) (L:List aA) (ps pd:Nat) (S:aK) (D:aG) (B:List (List UInt8)) (gs:List Nat) (vu v5 v6:Value) (wz:World):Prop:=
 ∃(i:Nat) (r:Value),i<=gs.length/\v5= .int .i64 ((lU gs i:Nat):Int)/\v6= .int .i64 ((Fx gs i:Nat):Int)/\Sat W wz (Cs ps 112 (bU pd S.sup (.slice none 0 0) S.aB r (E5 S.recs i))::Tb 100 3 rv r (S.recs.take (15*i))::IsMap vu (iW B.length (dE S.aB++gs.take i))::aP pd D::L)
def Lx (gs:List Nat) (v5:Value):Nat:=gs.length-posOf gs (intOf v5).toNat
theorem bA.chm {B:List (List UInt8)} {S:aK} {gs:List Nat} (h:bA B S gs) {i:Nat} (hi:i<gs.length):Lx gs (.int .i64 ((lU gs (i+1):Nat):Int))<Lx gs (.int .i64 ((lU gs i:Nat):Int)):=by
 unfold Lx;show gs.length-posOf gs ((lU gs (i+1):Nat):Int).toNat<gs.length-posOf gs ((lU gs i:Nat):Int).toNat;rw[fu,fu,h.pos (by omega),h.pos (by omega)];omega
theorem agC {ps pd k:Nat} {vu:Value} {S:aK} {D:aG} {B:List (List UInt8)} {gs:List Nat} (hok:bA B S gs) (hl:Lv D B k)
  (O:Sat W w (Cs ps 112 (bU pd S.sup (.slice none 0 0) S.aB (.slice none 0 0) 0)::IsMap vu (iW B.length (dE S.aB))::aP pd D::L)):
  Calls Tryz.prog 57 #[.pointer (some ⟨ps,0,none⟩),vu] w fun e w'=>∃r,e= .returned (.bool true)/\Sat W w' (Cs ps 112 (bU pd S.sup (.slice none 0 0) S.aB r S.last)::Tb 100 3 rv r S.recs::IsMap vu S.U::aP pd D::L):=by
 have HK:=Z hok;have HL:=Z hl
 have H0:Hid (Sat W w (Cs ps 112 (bU pd S.sup (.slice none 0 0) S.aB (.slice none 0 0) ((E5 S.recs 0:Nat):Int))::Tb 100 3 rv (.slice none 0 0) (S.recs.take (15*0))::IsMap vu (iW B.length (dE S.aB++gs.take 0))::aP pd D::L)):=Z (by
  rw[show S.recs.take (15*0)=[] from rfl,show dE S.aB++gs.take 0=dE S.aB by rw[List.take_zero,kv]]
  exact(Sat.jb O).bW)
 have gH:(bU pd S.sup (.slice none 0 0) S.aB (.slice none 0 0) 0)[2]? =some (.int .i64 ((lU gs 0:Nat):Int)):=by
  rw[Cg (by decide)];show some (Value.int .i64 S.sup.head)=_;rw[hok.head];unfold lU
  cases gs with
  |nil=>exact absurd rfl hok.ne
  |cons g gs=>rfl
 have GH:=Z gH;have hlen:=hok.Ai;clear gH hok hl;go_enter Tryz.func57,Tryz.ntmps57
 go_wp2_with (refine aH O aa GH.F ?_)
 clear O;go_loopw [5,6] (fun v5 v6 wz=>ChI W L ps pd S D B gs vu v5 v6 wz) (fun v5 _ _=>Lx gs v5)
 case atStart=>exact⟨0, .slice none 0 0,eG _,rfl,rfl,H0.F⟩
 case round=>
  clear H0;obtain⟨i,r,hi,rfl,rfl,O⟩:=hrel
  by_cases hlt:i<gs.length
  ·obtain⟨g,hg⟩:∃g,gs[i]? =some g:=⟨_,aR hlt⟩
   have hat:lU gs i=g:=by unfold lU;rw[hg];rfl
   have hrg:=HK.F.gU g (nD _ (bJ hg));have hn2:=HK.F.n2
   have hnm:g∉dE S.aB++gs.take i:=by
    intro hm;have hn:=HK.F.nd
    rcases gy.1 hm with hm|hm
    ·exact(lZ.1 hn).2.2 g hm g (bJ hg) rfl
    ·obtain⟨j,hj⟩:=jJ hm;have hji:j<i:=by have:=(bZ.1 hj).1;simp at this;omega
     rw[List.getElem?_take_of_lt hji] at hj;have:=(List.getElem?_inj (by omega) (lZ.1 hn).2.1).1 (hj.trans hg.symm);omega
   have Vj:=Z (show g<1024 by omega);have CG:=Z (UA (n:=B.length) hrg.1 hrg.2 hnm)
   have VG:=Z (show upd (iW B.length (dE S.aB++gs.take i)) g true=iW B.length (dE S.aB++gs.take (i+1)) by
    rw[Pq,dX,ik,hg];rfl)
   have FP:=Z (HK.F.bg i g hg);have he:=YE (HK.F.jM i);have FU:=Z he.2.1;have HE2:=Z he.2.2;have FV:=Z he.1;have iT:=Z (vT (jo gs i) (l:=chunk S.recs i) (by rw[um];omega));have GD:=Z (show(bU pd S.sup (.slice none 0 0) S.aB r (E5 S.recs i))[0]? =some (.pointer (some ⟨pd,0,none⟩)) from rfl);have GL:=Z (Uk (pd:=pd) (s:=S.sup) (fv:= .slice none 0 0) (r:=r) (last:=((E5 S.recs i:Nat):Int)) HK.F.x);have e0:((g:Int)==0)=false:=dH.2 (by omega);have ay:=Z hlt;have eH:=Z HK.F.x;have GR:=Z (O8 (pd:=pd) (s:=S.sup) (fv:= .slice none 0 0) (r:=r) (last:=((E5 S.recs i:Nat):Int)) HK.F.x);have gB:=Z (show ∀x∈chunk S.recs i,(rv x).length=3 from fun _ _=>rfl)
   have Jh:=Z (show ∀u∈(chunk S.recs i).flatMap rv,u.oneCell'=true from fun u hu=>by
    obtain⟨x,_,V⟩:=mE.1 hu
    exact xI x u V)
   have lT:=Z (show(S.recs.take (15*i)).length<=15360 by rw[jr];omega);have Bd:=Z (show(chunk S.recs i).length<=15 by rw[um];omega);have wP:=Z (Xf S.recs i);obtain⟨nn,hnn⟩:=au ((S.recs.take (15*i)++chunk S.recs i).length);have qf:=Z hnn;clear hnn;have dJ:=Z (show Value.int .i64 (jo gs i)= .int .i64 ((lU gs (i+1):Nat):Int) from rfl);have uR:=Z (show Value.int .i64 (g:Int)= .int .i64 ((Fx gs (i+1):Nat):Int) by show _=Value.int .i64 ((lU gs i:Nat):Int);rw[hat]);have jv:=Z (HK.F.chm hlt);rw[hat] at jv;rw[hat]
   cases i with
   |zero=>
    clear hlt hg hat hrg hn2 hnm he hi
    go_wp2_with (first
     |(refine aH O aa GD.F ?_)
     |(refine aH O aa GL.F ?_)
     |(go_at_call 56;refine ak (Calls.uX O (k:=2) rfl (fun hF=>Ux hF g Vj.F CG.F)) ?_;clear O;intro J O;dsimp only[aD,aN] at O;rw[VG.F] at O)
     |(go_at_call 53;refine(JD (O.re [3,0,1,2]) HL.F rfl FP.F).mono ?_;clear O;rintro e J ⟨q,rfl,O⟩)
     |(go_at_call 101;refine(abH O _ (some ⟨q,0,none⟩) 128 iT.F (fun w h=>h.jc (n:=128) (sz:=1) aa (by decide) (by rw[jR,iT.F])) (by decide) FU.F HE2.F FV.F).mono ?_;clear O;rintro e J ⟨v9,rfl,O⟩;obtain⟨Jr,c9,rfl,_⟩:=O.fA (k:=0) rfl)
     |(refine aH O hz3 GR.F ?_)
     |(refine og O fD (chunk S.recs 0) ?_ (hlen:=gB.F) (hsrc:=(.inl (O.kK aa))) (I:=Jh.F) (hb:=by have:=lT.F;have:=Bd.F;omega) (hm:=by have:=lT.F;have:=Bd.F;omega);clear O;intro Mw cr J _ O;dsimp only[aD,aN] at O;rw[qf.F] at O ⊢)
     |(refine iA O hz3 ?_ (hb:=by rw[vD eH.F];decide);clear O;intro J O;dsimp only[aD,aN] at O;first|rw[Um eH.F] at O|rw[Ul eH.F] at O))
    rw[wP.F] at O;refine⟨⟨0+1,_,ay.F,dJ.F,uR.F,(O.re [0,1,3,4,5,2]).drop.drop⟩,jv.F⟩
   |succ j=>
    have Hl:E5 S.recs (j+1)=15:=by
     show(chunk S.recs j).length=15;rw[um];have:=HK.F.low;omega
    rw[Hl] at GL GR
    have Zi:Fx gs (j+1)≠0:=by
     show lU gs j≠0;obtain⟨g2,hg2⟩:∃g,gs[j]? =some g:=⟨_,aR (by omega)⟩
     have:=(HK.F.gU g2 (nD _ (bJ hg2))).1;unfold lU;rw[hg2];show g2≠0;omega
    rw[Hl] at O;obtain⟨pv,hpv⟩:=au (Fx gs (j+1));rw[hpv] at Zi ⊢;have e1:((pv:Int) != 0)=true:=bne_iff_ne.2 (by omega);clear hlt hg hat hrg hn2 hnm he hi Hl Zi
    go_wp2_with (first
     |(refine aH O aa GD.F ?_)
     |(refine aH O aa GL.F ?_)
     |(go_at_call 56;refine ak (Calls.uX O (k:=2) rfl (fun hF=>Ux hF g Vj.F CG.F)) ?_;clear O;intro J O;dsimp only[aD,aN] at O;rw[VG.F] at O)
     |(go_at_call 53;refine(JD (O.re [3,0,1,2]) HL.F rfl FP.F).mono ?_;clear O;rintro e J ⟨q,rfl,O⟩)
     |(go_at_call 101;refine(abH O _ (some ⟨q,0,none⟩) 128 iT.F (fun w h=>h.jc (n:=128) (sz:=1) aa (by decide) (by rw[jR,iT.F])) (by decide) FU.F HE2.F FV.F).mono ?_;clear O;rintro e J ⟨v9,rfl,O⟩;obtain⟨Jr,c9,rfl,_⟩:=O.fA (k:=0) rfl)
     |(refine aH O hz3 GR.F ?_)
     |(refine og O fD (chunk S.recs (j+1)) ?_ (hlen:=gB.F) (hsrc:=(.inl (O.kK aa))) (I:=Jh.F) (hb:=by have:=lT.F;have:=Bd.F;omega) (hm:=by have:=lT.F;have:=Bd.F;omega);clear O;intro Mw cr J _ O;dsimp only[aD,aN] at O;rw[qf.F] at O ⊢)
     |(refine iA O hz3 ?_ (hb:=by rw[vD eH.F];decide);clear O;intro J O;dsimp only[aD,aN] at O;first|rw[Um eH.F] at O|rw[Ul eH.F] at O))
    rw[wP.F] at O;refine⟨⟨(j+1)+1,_,ay.F,dJ.F,uR.F,(O.re [0,1,3,4,5,2]).drop.drop⟩,jv.F⟩
  ·obtain rfl:i=gs.length:=by omega
   have hall:S.recs.take (15*gs.length)=S.recs:=dF HK.F.high;have hpos:0<gs.length:=List.length_pos_iff.2 HK.F.ne;obtain⟨m,hm⟩:∃m,gs.length=m+1:=⟨gs.length-1,by omega⟩
   have hlast:E5 S.recs gs.length=S.last:=by
    rw[hm,HK.F.last];show(chunk S.recs m).length=_;rw[um];have:=HK.F.high;have:=HK.F.low;omega
   have htl:S.sup.tail=((Fx gs gs.length:Nat):Int):=by
    rw[HK.F.tail,List.getLast_eq_getElem];congr 1
    conv=>rhs;rw[hm]
    show _=lU gs m;unfold lU;rw[aR (by omega)];show gs[gs.length-1]=gs[m];congr 1;omega
   have hz:lU gs gs.length=0:=by unfold lU;rw[qE (aZ _)];rfl
   have hU:iW B.length (dE S.aB++gs.take gs.length)=S.U:=by rw[List.take_length,HK.F.u]
   rw[hall,hlast,hU] at O;obtain⟨ao,c,rfl,_⟩:=O.fA (k:=1) rfl;have GT:=Z (show(bU pd S.sup (.slice none 0 0) S.aB (.slice ao S.recs.length c) S.last)[3]? =some (.int .i64 ((Fx gs gs.length:Nat):Int)) by rw[Cg (by decide),<-htl];rfl);have GC:=Z (show(bU pd S.sup (.slice none 0 0) S.aB (.slice ao S.recs.length c) S.last)[4]? =some (.int .i64 ((S.recs.length:Nat):Int)) by rw[Cg (by decide),<-HK.F.recs];rfl);have GR:=Z (O8 (pd:=pd) (s:=S.sup) (fv:= .slice none 0 0) (r:= .slice ao S.recs.length c) (last:=(S.last:Int)) HK.F.x);have HG:=Z (bL HK.F.gr);have gB:=Z (show S.recs.length<=900000 by have:=HK.F.high;omega);rw[hz];obtain⟨pl,hpl⟩:=au (Fx gs gs.length);rw[hpl] at GT ⊢;obtain⟨rl,hrl⟩:=au S.recs.length;have Sq:(rl:Int)<=900000:=by have:=gB.F;omega
   have e5:((pl:Int)==(pl:Int))=true:=by simp
   have e6:((rl:Int)==(rl:Int))=true:=by simp
   have wQ:=Z (fun w h=>YQ (W:=W) (w:=w) (L:=Cs ps 112 (bU pd S.sup (.slice none 0 0) S.aB (.slice ao S.recs.length c) S.last)::Tb 100 3 rv (.slice ao S.recs.length c) S.recs::IsMap vu S.U::aP pd D::L) h S.recs ao c (fun w h=>h.kK (k:=1) rfl) gB.F);rw[HG.F] at wQ;rw[hrl] at O GT GC GR wQ;clear hlt hi hall hpos hm hlast htl hz hU hpl
   go_wp2_with (first
    |(refine aH O aa GR.F ?_)
    |(go_at_call 59;refine(wQ.F _ O).mono ?_;rintro e J ⟨pg,rfl,hS1⟩;clear O;have O:=hS1.drop;clear hS1))
   (refine cB (pO [0,1,2,3,4,5,6]<|rO [7]<|pO [8,9,10,11,12,13]<|rO [14]<|pO [15,16,17,18,19]<|rO [20]<|pO [21,22,23]<| .e) [] O ?_;clear O;intro J O)
   repeat (first
    |(refine bG O ?_;go_frame)
    |(refine sK O ?_;go_frame)
    |(refine bR O ?_;(first
       |refine bK aa GT.F ?_
       |refine bK aa GR.F ?_
       |refine bK aa GC.F ?_);go_frame))
   refine bO ?_;go_wp2;go_ret;exact⟨_,rfl,O⟩
theorem Z0 {D:aG} {B:List (List UInt8)} {k:Nat} (h:Lv D B k) (H:B[2]? =some (zeros 128)):yO D=false/\o6 D=(0,D):=by
 obtain⟨a,b⟩:=TR (D:=D) (by rw[h.bl];exact H);exact⟨by unfold yO;rw[a];rfl,b⟩
def zX:List aL:=List.replicate 48 bC
theorem UQ:iH zX:=⟨rfl,fun x V=>by rw[List.eq_of_mem_replicate V];exact Dt⟩
def o9 (X:List aL) (i:Nat):List aL:=X.take i++List.replicate (48-i) bC
theorem acS (X:List aL):o9 X 0=zX:=by unfold o9 zX;simp
theorem acQ {X:List aL} (h:X.length=48):o9 X 48=X:=by unfold o9;rw[dF (by omega),Nat.sub_self];simp
theorem K6 {X:List aL} (h:iH X) {i:Nat} (hi:i<=48):iH (o9 X i) where
 len:=by unfold o9;rw[bP,jr,kZ,h.len];omega
 ok x V:=by
  unfold o9 at V
  rcases gy.1 V with V|V
  ·exact h.ok x (List.mem_of_mem_take V)
  ·rw[List.eq_of_mem_replicate V];exact Dt
theorem acR {X:List aL} (h:X.length=48) {i:Nat} {x:aL} (V:X[i]? =some x):(o9 X i).set i x=o9 X (i+1):=by
 have hi:=(bZ.1 V).1;unfold o9;rw[List.set_append_right _ _ (by rw[jr];omega),jr,show i-min i X.length=0 by omega];rw[ik,V,Option.toList_some,dX,show 48-i=(48-(i+1))+1 by omega,List.replicate_succ];rfl
def kQ (l:List Int):List Nat:=(l.filter (fun p=>decide (p≠0))).map Int.toNat
theorem MG (x:aL):kQ x.ptrs=oo x:=rfl
theorem WR {l:List Int} {j:Nat} (h:l[j]? =some 0):kQ (l.take (j+1))=kQ (l.take j):=by
 unfold kQ;rw[ik,h];simp
theorem WS {l:List Int} {j p:Nat} (h:l[j]? =some (p:Int)) (hp:p≠0):kQ (l.take (j+1))=kQ (l.take j)++[p]:=by
 unfold kQ;rw[ik,h,Option.toList_some,List.filter_append,lC];have:¬((p:Int)=0):=by omega
 simp[hp]
theorem WU {X:List aL} {i:Nat} {x:aL} (h:X[i]? =some x):dE (X.take (i+1))=dE (X.take i)++oo x:=by
 unfold dE;rw[ik,h,Option.toList_some,List.flatMap_append];simp
theorem anx {pd:Nat} {s:di} {fv:Value} {X:List aL} {r:Value} {last:Int} (h:iH X) {i:Nat} {x:aL} (V:X[i]? =some x):((bU pd s fv X r last).drop (9+i*37+5)).take 32=pv x.ptrs:=by
 have I:=O7 (pd:=pd) (s:=s) (fv:=fv) (r:=r) (last:=last) h V;rw[<-List.drop_drop];have H:(((bU pd s fv X r last).drop (9+i*37)).drop 5).take 32=(((bU pd s fv X r last).drop (9+i*37)).take 37).drop 5:=by rw[List.drop_take]
 rw[H,I];rfl
theorem agh {q:Nat} (l:List Int) (h:q≠0):kQ ((q:Int)::l)=q::kQ l:=by
 unfold kQ;rw[List.filter_cons_of_pos (by simp;exact h),jN];rfl
theorem agi {l:List Int} {j q:Nat} (h:l[j]? =some (q:Int)) (hq:q≠0):kQ l=kQ (l.take j)++q::kQ (l.drop (j+1)):=by
 have hj:=(bZ.1 h).1;have he:l[j]=(q:Int):=(bZ.1 h).2
 conv=>lhs;rw[<-rR j l,List.drop_eq_getElem_cons hj,he]
 rw[<-agh _ hq];unfold kQ;rw[List.filter_append,lC]
theorem agj {X:List aL} {gs:List Nat} (hn:(dE X++gs).Nodup) {i j q:Nat} {x:aL} (V:X[i]? =some x) (hp:x.ptrs[j]? =some (q:Int)) (hq:q≠0):q∈dE X/\q∉dE (X.take i)++kQ (x.ptrs.take j):=by
 have e:dE X=(dE (X.take i)++kQ (x.ptrs.take j))++q::(kQ (x.ptrs.drop (j+1))++dE (X.drop (i+1))):=by
  have hi:=(bZ.1 V).1;have he:X[i]=x:=(bZ.1 V).2;unfold dE
  conv=>lhs;rw[<-rR i X,List.drop_eq_getElem_cons hi,he,List.flatMap_append,pY,<-MG,agi hp hq]
  simp only[dX,dB]
 have I:=(lZ.1 hn).1;rw[e] at I;refine⟨by rw[e];simp,fun hm=>?_⟩;exact(lZ.1 I).2.2 q hm q (List.mem_cons_self ..) rfl
theorem akw {W w:World} {R:List aA} {q:Nat} {U:Nat->Bool} {E:TypeId} {A B C X:aA} (h:Sat W w (Cs q E (bv (cO U))::A::B::C::X::R)):Sat W w (IsMap (.slice (some ⟨q,0,none⟩) 128 128) U::A::B::C::R):=by
 have H:Sat W w (Cs q E ([]++bv (cO U)++[])::A::B::C::R):=by
  rw[iP,kv];exact((h.re [4,0,1,2,3]).drop)
 unfold IsMap;exact Sat.pW (n:=128) (cap:=128) (sz:=1) H (aZ _) (by decide) (by rw[jR,uC]) rfl (by rw[jR,uC];decide)
def OpJ (W:World) (L:List aA) (ps pd n i:Nat) (S:aK) (D:aG) (x:aL) (vu v84:Value) (wz:World):Prop:=
 ∃j:Nat,v84= .int .i64 (j:Int)/\j<=32/\Sat W wz (Cs ps 112 (bU pd S.sup (.slice none 0 0) (o9 S.aB (i+1)) (.slice none 0 0) 0)::IsMap vu (iW n (dE (S.aB.take i)++kQ (x.ptrs.take j)))::aP pd D::L)
def VV (W:World) (L:List aA) (pd:Nat) (S:aK) (D:aG) (e:Ending) (w':World):Prop:=∃ps,e= .returned (.tuple #[.pointer (some ⟨ps,0,none⟩), .int .i64 0])/\Sat W w' (bF ps pd S::aP pd D::L)
def Gf (n:Nat) (v:Value):Nat:=n-(intOf v).toNat
theorem Ob {n i:Nat} (h:i<n):Gf n (.int .i64 ((i+1:Nat):Int))<Gf n (.int .i64 (i:Int)):=by
 unfold Gf;show n-(((i+1:Nat):Int)).toNat<n-((i:Int)).toNat;rw[fu,fu];omega
def OpI (W:World) (L:List aA) (ps pd n:Nat) (S:aK) (D:aG) (vu v55:Value) (wz:World):Prop:=
 ∃i:Nat,v55= .int .i64 (i:Int)/\i<=48/\Sat W wz (Cs ps 112 (bU pd S.sup (.slice none 0 0) (o9 S.aB i) (.slice none 0 0) 0)::IsMap vu (iW n (dE (S.aB.take i)))::aP pd D::L)
theorem Od {pd k k0:Nat} {S:aK} {D0 D:aG} {B:List (List UInt8)} {gs:List Nat} (hok:bA B S gs) (hG:DG D0 k0) (hk:k0<=90000) (h26:26<=D0.blocks.length) (hrec:o6 D0=(0,D)) (hl:Lv D B k) (O:Sat W w (aP pd D0::L)):
  Calls Tryz.prog 17 #[.pointer (some ⟨pd,0,none⟩)] w fun e w'=>VV W L pd S D e w':=by
 have HK:=Z hok;have HL:=Z hl;have Eb:=Z (fun w (h:Sat W w (aP pd D0::L))=>aoG h hG hk h26);rw[hrec] at Eb;obtain⟨rb,hrb⟩:=au (yO D0);rw[hrb] at Eb;clear hrb;obtain⟨n,hn⟩:=au B.length;have FR:=Z (show(D.blocks.length:Int)=(n:Int) by rw[hl.bl,hn]);have hsb:S.sup.blocks=(n:Int):=by rw[hok.blocks,hn]
 have n1:(160:Int)<=(n:Int):=by have:=hok.n1;omega
 have n2:(n:Int)<=1024:=by have:=hok.n2;omega
 have hse:=YF hok.sup;have HB0:=Z hok.b0
 have Ed:=Z (fun w L q (h:Sat W w (Cs q 106 (bv (encS S.sup))::L))=>by
  have:=am4 h (encS S.sup) (some ⟨q,0,none⟩) 128 (fun w h=>by rw[oD];exact h.jc (n:=128) (sz:=1) aa (by decide) (by rw[jR,oD])) (by rw[oD];decide);rw[oD,hse.1,hse.2] at this
  exact this)
 have qX:=Z (show ∀u:World,(Instr.build 112 #[(0, .pointer (some ⟨pd,0,none⟩))]).run Tryz.prog u= .ok (.agg (bU pd nV (.slice none 0 0) zX (.slice none 0 0) 0).toArray) u from fun u=>run_build u _ _ _ (by kernel_rfl));have fQ:=Z (vD (pd:=pd) (s:=nV) (fv:= .slice none 0 0) (r:= .slice none 0 0) (last:=0) UQ);have uS:=Z (KW (pd:=pd) (s:=nV) (s':=S.sup) (fv:= .slice none 0 0) (X:=zX) (r:= .slice none 0 0) (last:=0));have G1:=Z (show(bU pd S.sup (.slice none 0 0) zX (.slice none 0 0) 0)[1]? =some (.int .i64 (n:Int)) by rw[Cg (by decide),<-hsb];rfl);have e0:((n:Int)==(n:Int))=true:=by simp
 have sM:=Z (show 0<n/\n<=1024 by omega);clear hok hl hrec hsb hse hk hG h26;obtain⟨nZ,hZ⟩:=au (bU pd nV (.slice none 0 0) zX (.slice none 0 0) 0);rw[hZ] at qX fQ uS;clear hZ;go_enter Tryz.func17,Tryz.ntmps17
 go_wp2_with (first
  |(go_at_call 52;refine ak (Eb.F _ O) ?_;clear O;intro J O)
  |(refine aU ?_;refine bd _ _ (by rfl) (by simp only[List.map_toArray,jN,List.map_nil];rfl) qX.F ?_)
  |(refine bV O ?_;clear O;intro ps J O;rw[aS] at O)
  |(go_at_call 53;refine(JD O.bW HL.F (n:=0) rfl HB0.F).mono ?_;clear O;rintro e J ⟨q,rfl,O⟩)
  |(go_at_call 54;refine ak (Ed.F _ _ _ O) ?_;clear O;intro J O)
  |(refine kW (sv S.sup) O hz2 ?_ (hv:=(lI _)) (hb:=by rw[fQ.F];show 8<=1787;decide);clear O;intro J O;dsimp only[aD,aN] at O;rw[show 1+(sv S.sup).length=8 from rfl,uS.F] at O))
 (refine cB (pO [0,1,2,3,4,5,6]<|rO [7]<|pO [8]<|aO [9]<|pO [10,11]<| .e) [] O ?_;clear O;intro J O)
 repeat (first
  |(refine bG O ?_;go_frame)
  |(refine sK O ?_;go_frame)
  |(refine bR O ?_;(refine bK hz2 G1.F ?_);go_frame)
  |(refine bY fun K hK=>?_;(refine jy (zh (O.re [1]) FR.F) ?_;rintro J rfl);refine hK.go O ?_;clear hK K;go_frame))
 refine bO ?_
 go_wp2_with (first
  |(go_at_call 27;refine ak (zh (O.re [1]) FR.F) ?_;rintro J rfl)
  |(go_at_call 26;refine(Q5 O n (by have:=sM.F;omega)).mono ?_;clear O;rintro e J ⟨vu,rfl,O⟩))
 have H0:Hid (Sat W _ (Cs ps 112 (bU pd S.sup (.slice none 0 0) (o9 S.aB 0) (.slice none 0 0) 0)::IsMap vu (iW n (dE (S.aB.take 0)))::aP pd D::L)):=Z (by
  rw[acS,show iW n (dE (S.aB.take 0))=lJ n from UB n]
  exact((O.re [1,3,0,2]).drop))
 clear O;go_loopw [55] (fun v55 wz=>OpI W L ps pd n S D vu v55 wz) (fun v55 _=>Gf 48 v55)
 case atStart=>exact⟨0,rfl,by decide,H0.F⟩
 case round=>
  clear H0;obtain⟨i,rfl,hi,O⟩:=hrel
  by_cases hlt:i<48
  ·have k1:(i:Int)<48:=by omega
   have ay:=Z hlt;obtain⟨x,V⟩:∃x,S.aB[i]? =some x:=⟨_,aR (by rw[HK.F.x.len];exact hlt)⟩
   have HX:=Z V;have q9:=Z (HK.F.x.ok x (bJ V));have PO:=Z (HK.F.bi i x V);have y8:=Z (fun w L q (h:Sat W w (Cs q 106 (bv (encI x))::L))=>ajg h x q9.F (some ⟨q,0,none⟩) 128 (fun w L' h=>h.jc (n:=128) (sz:=1) (has_add aa L') (by decide) (by rw[jR,CY x q9.F.pl])));have lT:=Z (vD (pd:=pd) (s:=S.sup) (fv:= .slice none 0 0) (r:= .slice none 0 0) (last:=0) (K6 HK.F.x hi));have dI:=Z (show(inv x).length=37 by rw[fe,q9.F.pl]);have HI1:=Z (inv_one x)
   have oU:=Z (show(bU pd S.sup (.slice none 0 0) (o9 S.aB i) (.slice none 0 0) 0).take (9+i*37)++inv x++(bU pd S.sup (.slice none 0 0) (o9 S.aB i) (.slice none 0 0) 0).drop (9+i*37+(inv x).length)=bU pd S.sup (.slice none 0 0) (o9 S.aB (i+1)) (.slice none 0 0) 0 by
    rw[dI.F,anz (K6 HK.F.x hi) hlt x q9.F.pl,acR HK.F.x.len V])
   obtain⟨iv,dA⟩:=au (inv x);rw[dA] at y8 dI HI1 oU;clear hlt hi V dA
   go_wp2_with (go_at_call 53;refine(JD (O.re [2,0,1]) HL.F (n:=26+i) (by omega) PO.F).mono ?_;clear O;rintro e J ⟨q,rfl,O⟩)
   (refine cB (pO [0,1,2,7,8]<|aO [3]<|pO [4,5,6,9]<|aO [10]<|pO [11]<| .e) [3,10] O ?_;clear O;intro J O)
   repeat (first
    |(refine bG O ?_;go_frame)
    |(refine bY fun K hK=>?_;(first
       |(refine jy (y8.F _ _ _ O) ?_;clear O;intro J O)
       |(refine FJ iv O hz2 ?_ (hv:=HI1.F) (hn:=by rw[dI.F];exact bz (by rfl)) (hb:=by rw[lT.F,dI.F];have:=ay.F;omega);clear O;intro J O;dsimp only[aD,aN] at O));refine hK.go O ?_;clear hK K;go_frame))
   refine bO ?_;rw[oU.F] at O
   have QF:=Z (show(o9 S.aB (i+1))[i]? =some x by
    unfold o9;have hil:=(bZ.1 HX.F).1;rw[xN (by rw[jr];omega),List.getElem?_take_of_lt (by omega)]
    exact HX.F)
   have gz:=Z (anx (pd:=pd) (s:=S.sup) (fv:= .slice none 0 0) (r:= .slice none 0 0) (last:=0) (K6 HK.F.x (i:=i+1) (by have:=ay.F;omega)) QF.F);have eX:=Z (show(pv x.ptrs).length=32 by rw[zI,q9.F.pl])
   go_wp2_with (refine dm O hz2 (pv x.ptrs) ?_ (hvs:=gz.F) (hb:=eX.F))
   have H1:Hid (Sat W _ (Cs ps 112 (bU pd S.sup (.slice none 0 0) (o9 S.aB (i+1)) (.slice none 0 0) 0)::IsMap vu (iW n (dE (S.aB.take i)++kQ (x.ptrs.take 0)))::aP pd D::L)):=Z (by
    rw[show dE (S.aB.take i)++kQ (x.ptrs.take 0)=dE (S.aB.take i) from kv _]
    exact(O.re [0,2,3,1]).drop)
   clear O;go_loopw [84] (fun v84 wz=>OpJ W L ps pd n i S D x vu v84 wz) (fun v84 _=>Gf 32 v84)
   case atStart=>exact⟨0,rfl,by decide,H1.F⟩
   case round=>
    clear H1;obtain⟨j,rfl,hj,O⟩:=hrel
    by_cases hjl:j<32
    ·obtain⟨p,hp⟩:∃p,x.ptrs[j]? =some p:=⟨_,aR (by rw[q9.F.pl];exact hjl)⟩
     have hix:=fun w=>Ny hjl hp w
     have k2:(j:Int)<32:=by omega
     have HJ:=Z hjl
     by_cases h0:p=0
     ·subst h0;have HN:=Z (WR hp);clear hp hjl hj;go_wp2;rw[<-HN.F] at O;exact⟨⟨j+1,by go_num,HJ.F,O⟩,Ob HJ.F⟩
     ·have hpt:=q9.F.pt j p hp h0;obtain⟨q,rfl⟩:∃q:Nat,p=(q:Int):=⟨p.toNat,by omega⟩;have hb:=agj HK.F.nd HX.F hp (by omega);have hrg:=HK.F.gU q (nC _ hb.1);rw[hn] at hrg;have CG:=Z (UA (n:=n) hrg.1 hrg.2 hb.2);have HQ4:=Z (show q<1024 by omega)
      have HN:=Z (show upd (iW n (dE (S.aB.take i)++kQ (x.ptrs.take j))) q true=iW n (dE (S.aB.take i)++kQ (x.ptrs.take (j+1))) by
       rw[Pq,WS hp (by omega),dX])
      have e1:((q:Int) != 0)=true:=bne_iff_ne.2 h0;clear hp hjl hj hpt hb hrg h0
      go_wp2_with (go_at_call 56;refine ak (Calls.uX O (k:=1) rfl (fun hF=>Ux hF q HQ4.F CG.F)) ?_;clear O;intro J O;dsimp only[aD,aN] at O;rw[HN.F] at O)
      exact⟨⟨j+1,by go_num,HJ.F,O⟩,Ob HJ.F⟩
    ·obtain rfl:j=32:=by omega
     have Cr:=Z (show dE (S.aB.take i)++kQ (x.ptrs.take 32)=dE (S.aB.take (i+1)) by
      rw[WU HX.F,show x.ptrs.take 32=x.ptrs from dF (by rw[q9.F.pl];exact aZ _),MG])
     rw[Cr.F] at O;clear hjl hj;go_wp2;exact⟨⟨i+1,by go_num,ay.F,O⟩,Ob ay.F⟩
  ·obtain rfl:i=48:=by omega
   subst hn;rw[acQ HK.F.x.len,show dE (S.aB.take 48)=dE S.aB by rw[dF (by rw[HK.F.x.len];exact aZ _)]] at O;have jv:=Z (fun w (h:Sat W w (Cs ps 112 (bU pd S.sup (.slice none 0 0) S.aB (.slice none 0 0) 0)::IsMap vu (iW B.length (dE S.aB))::aP pd D::L))=>agC HK.F HL.F h);have HB1:=Z HK.F.b1;have eH:=Z HK.F.x;clear hlt hi
   go_wp2_with (first
    |(go_at_call 57;refine(jv.F _ O).mono ?_;clear O;rintro e J ⟨r,rfl,O⟩)
    |(go_at_call 53;refine(JD (O.re [3,0,1,2]) HL.F (n:=1) rfl HB1.F).mono ?_;clear O;rintro e J ⟨q,rfl,O⟩)
    |(refine iA O hz2 ?_ (hb:=by rw[vD eH.F];decide);clear O;intro J O;dsimp only[aD,aN] at O;rw[O9] at O))
   have G8:=Z (O6 (pd:=pd) (s:=S.sup) (fv:= .slice (some ⟨q,0,none⟩) 128 128) (X:=S.aB) (r:=r) (last:=S.last))
   (refine cB (pO [0,1,2]<|rO [3,4]<|pO [5]<|rO [6]<|pO [7]<| .e) [] O ?_;clear O;intro J O)
   repeat (first
    |(refine bG O ?_;go_frame)
    |(refine bR O ?_;(first
       |refine bK hz2 G8.F ?_
       |refine⟨_,xM _ _ _ (by rfl) (.slice (some ⟨q,0,none⟩) 128 128) (by rfl) jI (fun u hu=>hu.jc (n:=128) (sz:=1) aa (by decide) (by rw[jR,uC])),?_⟩
       |refine⟨_,xM _ _ _ (by rfl) vu (by rfl) jI (fun u hu=>qy fD u [] hu),?_⟩);go_frame))
   refine bO ?_;go_wp2
   go_ret2
   refine⟨ps,rfl,bF.mk (fv:= .slice (some ⟨q,0,none⟩) 128 128) (r:=r) ?_⟩;have I:=O.re [0,2,3,1];exact(akw I).re [1,0,2,3]
theorem TN (w:World):Rd w (.slice none 0 0) 0 3 (([]:List bM).flatMap rv):=⟨none,0,rfl,aZ _,by decide,rfl,fun h=>absurd h (Nat.lt_irrefl 0)⟩
theorem Tv:jM [] 0=true:=by decide
theorem TG:zH [] 0=gL [] 0:=BV Tv
def adH (W:World) (L:List aA) (p n:Nat) (v6 v8:Value) (w':World):Prop:=
 ∃(i:Nat) (D:aG),v6= .int .i64 (i:Int)/\i<=48/\Lv D (xq n i) (3+i)/\Sat W w' (aP p D::Sl 5 1 v8 128 (bv (encS (vE n)))::L)
set_option maxRecDepth 100000 in
def Yk (W:World) (L:List aA) (p n:Nat):Act->World->Prop:=(fun(a':Act) (w':World)=>(adH W L p n (a'.tmps.getD 6 undef) (a'.tmps.getD 8 undef) w')/\tN 70 [(0, .pointer (some ⟨p,0,none⟩)),(2, .int .i64 0),(7, .int .i64 0)] [1,3,4,5,6,8,9,10,11,12,13,14,15,16,17,18,19,20,21,22,23,24,25,26,27,28,29,30,31,32,33,34,35,36,37,38,39,40,41,42,43,44,45,46,47,48,49,50,51,52,53,54,55,56,57,58,59,60,61,62,63] (fun _=>undef) a')
def adG (W:World) (L:List aA) (p n:Nat) (w':World):Prop:=∃D,Lv D (sW n) 52/\Sat W w' (aP p D::L)
theorem ahS {p n:Nat} {D:aG} (O:Sat W w (aP p D::L)) (hD:Lv D (List.replicate n (zeros 128)) 0) (I:160<=n) (H:n<=1024):
  Calls Tryz.prog 7 #[.pointer (some ⟨p,0,none⟩)] w fun e w'=>e= .returned (.int .i64 0)/\adG W L p n w':=by
 have HD:=Z hD;have FR:=Z (show(D.blocks.length:Int)=(n:Int) by rw[hD.bl,kZ]);have n1:(160:Int)<=(n:Int):=by omega
 have n2:(n:Int)<=1024:=by omega
 have l6:=Z I;have nI:=Z (Ik I H);have Cv:=Z (wL (Ik I H));have HW1:=Z (hD.wrote (n:=2) (by rw[kZ];omega) (zeros 128));have HW2:=Z (HW1.F.wrote (n:=1) (by rw[gV,kZ];omega) (cO (U0 n)));have HW3:=Z (HW2.F.wrote (n:=74) (by rw[gV,gV,kZ];omega) (gL [] 0));have PT:=Z (show((D.wrote 2 (zeros 128)).blocks.length:Int)=(n:Int) by rw[HW1.F.bl,gV,kZ]);clear hD I H;go_enter Tryz.func7,Tryz.ntmps7;go_wp2;refine UK 0 (Yk W L p n) (fun a' _=>48-(intOf (a'.tmps.getD 6 undef)).toNat) rfl ?_ ?_
 ·clear O;intro a w hinv;unfold Yk at hinv;obtain⟨hrel,ha⟩:=hinv;obtain⟨z,hz⟩:∃z:Nat->Value,∀i,a.tmps.getD i undef=z i:=⟨_,fun _=>rfl⟩
  try simp only[hz] at hrel
  replace ha:=ha.at hz;simp only[mM,lh] at ha;clear hz;subst ha;obtain⟨i,D',h6,hi,hl,O⟩:=hrel;rw[h6];have HL:=Z hl;obtain⟨v8,J3⟩:=au (z 8);rw[J3] at O ⊢;clear h6 hl J3
  by_cases hlt:i<48
  ·have j1:(i:Int)<48:=by omega
   have ay:=Z hlt;have HN:=Z (show xq n (i+1)=(xq n i).set (26+i) (encI (sD i)) from rfl);have HZ:=Z (show nU Tryz.prog 78=some (some (.agg (inv bC).toArray)) by kernel_rfl);have HB0:=Z (show ∀u:World,(Instr.build 78 #[]).run Tryz.prog u= .ok (.agg (inv bC).toArray) u from fun u=>run_build u _ _ _ (by kernel_rfl));have y5:=Z (show ∀u:World,(Instr.build 78 #[(0, .int .i64 2),(2, .int .i64 1),(3, .int .i64 1)]).run Tryz.prog u= .ok (.agg (inv jU).toArray) u from fun u=>run_build u _ _ _ (by kernel_rfl))
   by_cases h0:i=0
   ·subst h0;clear hlt hi
    go_wp2_with (first
     |(refine aU ?_;refine bd _ _ (by rfl) (by simp only[List.map_toArray,jN,List.map_nil];rfl) HB0.F ?_)
     |(refine aU ?_;refine bd _ _ (by rfl) (by simp only[List.map_toArray,jN,List.map_nil];rfl) y5.F ?_)
     |(refine dU O ?_ (hz:=HZ.F);clear O;intro px J O;rw[aS] at O)
     |(refine kW (inv bC) O aa ?_ (hv:=(inv_one _));clear O;intro J O;rw[aD,show(List.take 0 (inv bC)++inv bC++List.drop (0+(inv bC).length) (inv bC))=inv bC from rfl] at O)
     |(refine kW (inv jU) O aa ?_ (hv:=(inv_one _));clear O;intro J O;rw[aD,show(List.take 0 (inv bC)++inv jU++List.drop (0+(inv jU).length) (inv bC))=inv jU from rfl] at O)
     |(refine aU ?_;refine rE O _ _ (by rfl) _ _ (by rfl) (aI (by rfl)) (bz (by rfl)) aa (by decide) ?_)
     |(go_at_call 32;refine(Hr O jU N7).mono ?_;rintro e J ⟨v11,rfl,hS1⟩;clear O;have O:=hS1.re [2,0,1];clear hS1)
     |(go_at_call 30;refine ak (yx O HL.F (by omega) (n:=26+0) (by omega) (by rw[qL];have:=l6.F;omega) _ (encI jU) (fun w h=>h.dY (k:=0) rfl)) ?_;clear O;intro J O))
    go_step3
    refine And.intro rfl (And.intro ⟨⟨0+1,_,rfl,ay.F,HL.F.wrote (n:=26+0) (by rw[qL];have:=l6.F;omega) _,(O.re [1,2]).drop.drop⟩,rfl⟩ ?_);have:=ay.F;simp[intOf]
    try omega
   ·have e0:((i:Int)==0)=false:=dH.2 (by omega);have HA:=Z (show sD i=bC from if_neg h0);clear hlt hi h0
    go_wp2_with (first
     |(refine aU ?_;refine bd _ _ (by rfl) (by simp only[List.map_toArray,jN,List.map_nil];rfl) HB0.F ?_)
     |(refine aU ?_;refine bd _ _ (by rfl) (by simp only[List.map_toArray,jN,List.map_nil];rfl) y5.F ?_)
     |(refine dU O ?_ (hz:=HZ.F);clear O;intro px J O;rw[aS] at O)
     |(refine kW (inv bC) O aa ?_ (hv:=(inv_one _));clear O;intro J O;rw[aD,show(List.take 0 (inv bC)++inv bC++List.drop (0+(inv bC).length) (inv bC))=inv bC from rfl] at O)
     |(refine kW (inv jU) O aa ?_ (hv:=(inv_one _));clear O;intro J O;rw[aD,show(List.take 0 (inv bC)++inv jU++List.drop (0+(inv jU).length) (inv bC))=inv jU from rfl] at O)
     |(refine aU ?_;refine rE O _ _ (by rfl) _ _ (by rfl) (aI (by rfl)) (bz (by rfl)) aa (by decide) ?_)
     |(go_at_call 32;refine(Hr O bC Dt).mono ?_;rintro e J ⟨v11,rfl,hS1⟩;clear O;have O:=hS1.re [2,0,1];clear hS1)
     |(go_at_call 30;refine ak (yx O HL.F (by omega) (n:=26+i) (by omega) (by rw[qL];have:=l6.F;omega) _ (encI bC) (fun w h=>h.dY (k:=0) rfl)) ?_;clear O;intro J O))
    go_step3
    refine And.intro rfl (And.intro ⟨⟨i+1,_,by go_num,ay.F,by rw[HN.F,HA.F];exact HL.F.wrote (by rw[qL];have:=l6.F;have:=ay.F;omega) _,(O.re [1,2]).drop.drop⟩,rfl⟩ ?_);have:=ay.F;simp[intOf]
    try omega
  ·obtain rfl:i=48:=by omega
   clear hlt hi
   go_wp2_with (go_at_call 30;refine ak (yx O HL.F (by decide) (a:=0) (n:=0) rfl (by rw[qL];have:=l6.F;omega) _ (encS (vE n)) (fun w h=>h.dY (k:=0) rfl)) ?_;clear O;intro J O)
   simp only[Exit.jump];go_ret;exact⟨rfl,_,HL.F.wrote (by rw[qL];have:=l6.F;omega) _,(O.bW).drop⟩
 ·intro HP
  go_wp2_with (first
   |(go_at_call 27;refine ak (zh O FR.F) ?_;rintro J rfl)
   |(go_at_call 26;refine(Q5 O n (by omega)).mono ?_;clear O;rintro e J ⟨v3,rfl,O⟩)
   |(go_at_call 28;refine ak (Gp O 74 (by omega) true) ?_;clear O;intro J O)
   |(go_at_call 29;refine(Iq O [] none 0 (fun w h=>TN w) (by decide) 0).mono ?_;rintro e J ⟨v4,rfl,hS1⟩;rw[Tv];rw[TG,vT 0 (by decide)] at hS1;clear O;have O:=hS1;clear hS1)
   |(refine aU ?_;refine mk O _ _ _ (by rfl) 128 128 _ _ (by rfl) (by rfl) (bS (by rfl)) (by omega) (by omega) (by omega) ?_;intro pz J hS1;clear O;rw[zA] at hS1;have O:Sat W J (aP p D::Cs pz 5 (bv (zeros 128))::Sl 5 1 v4 128 (bv (gL [] 0))::IsMap v3 (U0 n)::L):=hS1.re [3,0,1,2];clear hS1)
   |(go_at_call 30;refine ak (yx O HD.F (by decide) (a:=2) (n:=2) rfl (by rw[kZ];have:=l6.F;omega) _ (zeros 128) (fun w h=>h.jc (n:=128) (sz:=1) aa (by decide) (by simp[jR,zeros]))) ?_;clear O;intro J O)
   |(go_at_call 27;refine ak (zh O PT.F) ?_;rintro J rfl)
   |(go_at_call 31;refine(IA O (vE n)).mono ?_;rintro e J ⟨v8,rfl,hS1⟩;rw[nI.F];rw[Cv.F,oD] at hS1;clear O;have O:=hS1.bW;clear hS1)
   |(go_at_call 30;refine ak (yx O HW1.F (by decide) (a:=1) (n:=1) rfl (by rw[gV,kZ];have:=l6.F;omega) _ (cO (U0 n)) (fun w h=>by unfold IsMap at h;exact h.dY (k:=3) rfl)) ?_;clear O;intro J O)
   |(go_at_call 30;refine ak (yx O HW2.F (by decide) (a:=74) (n:=74) rfl (by rw[gV,gV,kZ];have:=l6.F;omega) _ (gL [] 0) (fun w h=>h.dY (k:=2) rfl)) ?_;clear O;intro J O))
  go_step3
  rename_i K hK
  exact hK _ _ (HP _ _ ⟨⟨0,_,rfl,eG _,HW3.F,(O.re [2,3,4,0,1]).drop.drop.drop⟩,rfl⟩)
theorem Yg (w:World) (x:di):(Instr.field 55 (.agg (sv x).toArray) 5).run Tryz.prog w= .ok (.int .i64 x.next) w:=by kernel_rfl
theorem aaI:∀(l m:List Nat),l.Nodup->(∀x∈l,x∈m)->l.length<=m.length
 |[],_,_,_=>eG _
 |x::l,m,hn,h=>by
  have V:=h x (List.mem_cons_self ..)
  have:=aaI l (m.erase x) (List.nodup_cons.1 hn).2 (fun y hy=>by
   have hne:y≠x:=fun e=>(List.nodup_cons.1 hn).1 (e▸hy)
   exact(List.mem_erase_of_ne hne).2 (h y (List.mem_cons_of_mem _ hy)))
  rw[List.length_erase_of_mem V] at this;have hp:=List.length_pos_of_mem V;rw[fB];omega
theorem ahU {n:Nat} {l:List Nat} (hn:l.Nodup) (hr:∀p∈l,74<=p/\p<n) (h74:74<=n):(bT (iW n l) n).length+l.length+74=n:=by
 have hf:∀p,p∈bT (iW n l) n↔(74<=p/\p<n)/\p∉l:=fun p=>by
  unfold bT iW lJ;rw[List.mem_filter,jD];simp;omega
 have I:(bT (iW n l) n++(l++List.range 74)).length<=n:=by
  refine Ig n _ ?_ ?_
  ·rw[lZ];refine⟨List.filter_sublist.nodup List.nodup_range,?_,?_⟩
   ·rw[lZ];refine⟨hn,List.nodup_range,fun a ha b hb e=>?_⟩;subst e;have:=(hr a ha).1;have:=jD.1 hb;omega
   ·intro a ha b hb e;subst e;have H:=(hf a).1 ha
    rcases gy.1 hb with hb|hb
    ·exact H.2 hb
    ·have:=jD.1 hb;omega
  ·intro x V
   rcases gy.1 V with V|V
   ·exact((hf x).1 V).1.2
   ·rcases gy.1 V with V|V
    ·exact(hr x V).2
    ·have:=jD.1 V;omega
 have H:(List.range n).length<=(bT (iW n l) n++(l++List.range 74)).length:=by
  refine aaI _ _ List.nodup_range ?_;intro x V;have V:=jD.1 V
  by_cases h74:x<74
  ·exact nD _ (nD _ (jD.2 h74))
  ·by_cases hl:x∈l
   ·exact nD _ (nC _ hl)
   ·exact nC _ ((hf x).2 ⟨⟨by omega,V⟩,hl⟩)
 rw[bP,bP,List.length_range] at I;rw[bP,bP,List.length_range,List.length_range] at H;omega
theorem bA.free {B:List (List UInt8)} {S:aK} {gs:List Nat} (h:bA B S gs):(bT S.U B.length).length+(dE S.aB).length+gs.length+74=B.length:=by
 have:=ahU h.nd h.gU (by have:=h.n1;omega);rw[h.u];rw[bP] at this;omega
theorem akD {pd k:Nat} {S:aK} {D:aG} {B:List (List UInt8)} {gs:List Nat} (hok:bA B S gs) (hl:Lv D B k) (hk:k<=90000) (O:Sat W w (aP pd D::L)):
  Calls Tryz.prog 17 #[.pointer (some ⟨pd,0,none⟩)] w fun e w'=>VV W L pd S D e w':=
 Od hok hl.ok hk (by rw[hl.bl];have:=hok.n1;omega) (Z0 hl hok.b2).2 hl O
theorem ahT {n:Nat} (I:160<=n) (H:n<=1024):(bT (S0 n).U n).length=n-75:=by
 have:=(OZ I H).free;rw[MH,GI] at this;simp at this;omega
theorem Q0 (O:Sat W w L):Calls Tryz.prog 11 #[] w fun e w'=>e= .returned (.bool true)/\Sat W w' L:=by
 have F6:=Z (fun w (h:Sat W w L)=>Ib h 200 (by decide) (by decide));have HF:=Z (fun w p (h:Sat W w (aP p (.new 200)::L))=>ahS (n:=200) h (Lv.new (n:=200) (by decide)) (by decide) (by decide));have HO:=Z (fun w p D (hl:Lv D (sW 200) 60) (h:Sat W w (aP p D::L))=>akD (OZ (n:=200) (by decide) (by decide)) hl (by decide) h);have HX:=(OZ (n:=200) (by decide) (by decide)).x;have Vh:=Z (fun w ps pd D (h:Sat W w (bF ps pd (S0 200)::aP pd D::L))=>acf (n:=200) h rfl (by decide) (by decide));rw[ahT (n:=200) (by decide) (by decide)] at Vh;have iD:=Z (fun w ps pd D (h:Sat W w (bF ps pd (S0 200)::aP pd D::L))=>Ui h HX);have Y9:=fun w=>Yg w (S0 200).sup
 rw[show(S0 200).sup.next=1 from rfl] at Y9;clear HX;go_enter Tryz.func11,Tryz.ntmps11
 go_wp2_with (first
  |(go_at_call 5;refine(F6.F _ O).mono ?_;clear O;rintro e J ⟨pd,rfl,O⟩)
  |(go_at_call 7;refine(HF.F _ _ O).mono ?_;rintro e J ⟨rfl,hE⟩;obtain⟨D,hl,hS1⟩:=hE;have HL:=Z hl;clear hl;clear O;have O:=hS1;clear hS1)
  |(go_at_call 17;refine(HO.F _ _ _ (HL.F.mono (by decide)) O).mono ?_;rintro e J hE;obtain⟨ps,rfl,hS1⟩:=hE;clear O;have O:=hS1;clear hS1)
  |(go_at_call 41;refine ak (Vh.F _ _ _ _ O) ?_;clear O;intro J O)
  |(go_at_call 23;refine ak (iD.F _ _ _ _ O) ?_;clear O;intro J O))
 go_ret;exact⟨rfl,O.drop.drop⟩
theorem acn {ps pd:Nat} {S:aK} (O:Sat W w (bF ps pd S::L)) (hX:iH S.aB) (hl:S.recs.length<=900000):
  Calls Tryz.prog 49 #[.pointer (some ⟨ps,0,none⟩)] w fun e w'=>∃v,e= .returned v/\Sat W w' (Tb 100 3 rv v S.recs::bF ps pd S::L):=by
 obtain⟨fv,r,O⟩:=bF.open O
 have HL:=Z (O8 (pd:=pd) (s:=S.sup) (fv:=fv) (r:=r) (last:=S.last) hX);have HM:=Z (fun w L h=>bF.mk (W:=W) (w:=w) (L:=L) (ps:=ps) (pd:=pd) (S:=S) (fv:=fv) (r:=r) h);have HR:=Z (O.kK hz2);have H3:=Z (show ∀x∈S.recs,(rv x).length=3 from fun _ _=>rfl)
 have HO:=Z (show ∀u∈S.recs.flatMap rv,u.oneCell'=true from fun u hu=>by
  obtain⟨x,_,V⟩:=mE.1 hu
  exact xI x u V)
 obtain⟨kN,hV⟩:=au (bU pd S.sup fv S.aB r S.last);rw[hV] at O HL HM;clear hV;go_enter Tryz.func49,Tryz.ntmps49
 go_wp2_with (first
  |(refine aH O aa HL.F ?_)
  |(refine og (Sat.jb (E:=100) (sz:=3) (f:=rv) O) aa S.recs ?_ (hlen:=H3.F) (hsrc:=(.inl HR.F)) (I:=HO.F) (hb:=by have:=hl;simp;omega) (hm:=by have:=hl;simp;omega);clear O;intro Gm c4 J _ O;dsimp only[aD,aN,iP] at O))
 go_ret;exact⟨_,rfl,(HM.F _ _ ((O.re [1,2,3,0]))).bW⟩
theorem acg {ps pd:Nat} {S:aK} (O:Sat W w (bF ps pd S::L)) (hX:iH S.aB) (i:Nat) {x:aL} (V:S.aB[i]? =some x):
  Calls Tryz.prog 50 #[.pointer (some ⟨ps,0,none⟩), .int .i64 (i:Int)] w fun e w'=>e= .returned (.tuple #[.agg (inv x).toArray, .bool true])/\Sat W w' (bF ps pd S::L):=by
 obtain⟨fv,r,O⟩:=bF.open O
 have hi:i<48:=by have:=(bZ.1 V).1;rw[hX.len] at this;exact this
 have HL:=Z (vD (pd:=pd) (s:=S.sup) (fv:=fv) (r:=r) (last:=S.last) hX);have HS:=Z (O7 (pd:=pd) (s:=S.sup) (fv:=fv) (r:=r) (last:=S.last) hX V);have HM:=Z (fun w L h=>bF.mk (W:=W) (w:=w) (L:=L) (ps:=ps) (pd:=pd) (S:=S) (fv:=fv) (r:=r) h);have dI:=Z (show(inv x).length=37 by rw[fe,(hX.ok x (bJ V)).pl]);have HI1:=Z (inv_one x);obtain⟨kN,hV⟩:=au (bU pd S.sup fv S.aB r S.last);rw[hV] at O HL HS HM;obtain⟨iv,dA⟩:=au (inv x);rw[dA] at HS dI HI1 ⊢;have i1:(i:Int)<48:=by omega
 have e1:decide ((i:Int)<0)=false:=bf (by omega);have e2:decide ((48:Int)<=(i:Int))=false:=bf (by omega);have e3:decide (48<=i)=false:=bf (by omega);clear hV dA V hi;go_enter Tryz.func50,Tryz.ntmps50
 go_wp2_with (first
  |(refine dU O ?_;clear O;intro p2 J O;rw[aS] at O)
  |(refine dm O hz1 iv ?_ (hvs:=HS.F) (hb:=dI.F))
  |(refine eT iv O aa ?_ (hv:=HI1.F) (hn:=by rw[dI.F];exact bz (by rfl)) (hb:=by rw[dI.F];rfl);clear O;intro J O;dsimp only[aD,aN] at O))
 refine Ae O rfl (by rfl) (aI (by rfl)) (bz (by rfl)) aa (by first|rfl|exact dI.F) rfl ?_;exact⟨rfl,HM.F _ _ O.drop⟩
def Bw (B:List (List UInt8)) (p:Int):List UInt8:=if p=0 then zeros 128 else B[p.toNat]?.getD []
theorem amQ {ps pd:Nat} {S:aK} {D:aG} (O:Sat W w (bF ps pd S::aP pd D::L)) (hX:iH S.aB) (hD:D.blocks.length<=1024) (i k:Nat) {x:aL} (V:S.aB[i]? =some x) {p:Int} (hp:x.ptrs[k]? =some p)
  (hr:p≠0->0<=p/\p<D.blocks.length):
  Calls Tryz.prog 51 #[.pointer (some ⟨ps,0,none⟩), .int .i64 (i:Int), .int .i64 (k:Int)] w fun e w'=>∃q,e= .returned (.tuple #[.slice (some ⟨q,0,none⟩) 128 128, .bool true])/\∃E,Sat W w' (Cs q E (bv (Bw D.blocks p))::bF ps pd S::aP pd D::L):=by
 have HI:=Z (fun w (h:Sat W w (bF ps pd S::aP pd D::L))=>acg h hX i V);have hk:k<32:=by have:=(bZ.1 hp).1;rw[(hX.ok x (bJ V)).pl] at this;exact this
 have dI:=Z (show(inv x).length=37 by rw[fe,(hX.ok x (bJ V)).pl]);have HI1:=Z (inv_one x);have HP:=Z (xA hp);obtain⟨iv,dA⟩:=au (inv x);rw[dA] at HI dI HI1 HP;have k1:(k:Int)<32:=by omega
 have e1:decide ((k:Int)<0)=false:=bf (by omega);have e2:decide ((32:Int)<=(k:Int))=false:=bf (by omega);have e3:decide (32<=k)=false:=bf (by omega)
 by_cases h0:p=0
 ·subst h0;clear hr hp V dA hk;go_enter Tryz.func51,Tryz.ntmps51
  go_wp2_with (first
   |(go_at_call 50;refine ak (HI.F _ O) ?_;clear O;intro J O)
   |(refine dU O ?_;clear O;intro p2 J O;rw[aS] at O)
   |(refine eT iv O aa ?_ (hv:=HI1.F) (hn:=by rw[dI.F];exact bz (by rfl)) (hb:=by rw[dI.F];rfl);clear O;intro J O;dsimp only[aD,aN] at O)
   |(refine aH O aa HP.F ?_)
   |(refine aU ?_;refine mk O _ _ _ (by rfl) 128 128 _ _ (by rfl) (by rfl) (bS (by rfl)) (by omega) (by omega) (by omega) ?_;clear O;intro q J O;rw[zA] at O))
  go_ret2
  exact⟨q,rfl,_,O.bW.drop⟩
 ·obtain⟨I,H⟩:=hr h0;obtain⟨j,rfl⟩:∃j:Nat,p=(j:Int):=⟨p.toNat,by omega⟩;obtain⟨b,hb⟩:∃b,D.blocks[j]? =some b:=⟨_,aR (by omega)⟩
  have JS:Bw D.blocks (j:Int)=b:=by unfold Bw;rw[if_neg h0,fu,hb];rfl
  rw[JS];have iB:=Z (fun w L (h:Sat W w (aP pd D::L))=>Oy h j b hb hD);have e4:((j:Int)==0)=false:=dH.2 h0;have HM:=Z (fun w L (h:Sat W w (bF ps pd S::L))=>bF.open h);have Bh:=Z (fun w L fv r h=>bF.mk (W:=W) (w:=w) (L:=L) (ps:=ps) (pd:=pd) (S:=S) (fv:=fv) (r:=r) h);have HG:=Z (fun fv r=>show(bU pd S.sup fv S.aB r S.last)[0]? =some (.pointer (some ⟨pd,0,none⟩)) from rfl);clear hr hp V dA hk h0 I H JS hb;go_enter Tryz.func51,Tryz.ntmps51
  go_wp2_with (first
   |(go_at_call 50;refine ak (HI.F _ O) ?_;clear O;intro J O)
   |(refine dU O ?_;clear O;intro p2 J O;rw[aS] at O)
   |(refine eT iv O aa ?_ (hv:=HI1.F) (hn:=by rw[dI.F];exact bz (by rfl)) (hb:=by rw[dI.F];rfl);clear O;intro J O;dsimp only[aD,aN] at O)
   |(refine aH O aa HP.F ?_))
  obtain⟨fv,r,hS1⟩:=HM.F _ _ O.bW;clear O;have O:=hS1;clear hS1;have hS1:=O.re [3,0,4,1,2];clear O;have O:=hS1;clear hS1
  (refine cB (pO [0,1,2]<|rO [3]<|pO [4,5,6]<|rO [7]<|aO [8]<|pO [9,10,11,12,13]<| .e) [8] O ?_;clear O;intro J O)
  repeat (first
   |(refine bG O ?_;go_frame)
   |(refine bR O ?_;(first
     |refine bK hz1 (HG.F _ _) ?_
     |refine bK aa HP.F ?_);go_frame)
   |(refine bY fun K hK=>?_;(refine cK (iB.F _ _ (O.re [2,0,1])) ?_;clear O;rintro e J ⟨q,rfl,_,O⟩;refine⟨_,rfl,?_⟩);refine hK.go O ?_;clear hK K;go_frame))
  refine bO ?_;go_wp2
  go_ret2
  exact⟨q,rfl,_,((Bh.F _ _ _ _ ((O.re [3,4,5,0,1,2]))).re [3,1,0,2]).drop⟩
end Go.Proofs.YtjbiihbicknemaaGreat
