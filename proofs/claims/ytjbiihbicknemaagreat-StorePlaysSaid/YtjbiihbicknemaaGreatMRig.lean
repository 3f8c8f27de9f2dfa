/-
  Part of the proof of StoreWhole.
-/
import Derived.Test.YtjbiihbicknemaaGreatStNext
set_option linter.unusedSimpArgs false
set_option linter.unusedVariables false
set_option maxRecDepth 20000
set_option maxHeartbeats 40000000
namespace Go.Proofs.YtjbiihbicknemaaGreat
open Go.RowKit Go.Sep
variable {W w:World} {L:List aA}
attribute [local irreducible] Oper.wp wpList Calls Code.wp Sep.dR
def kT (l:List Int) (j:Nat):List Nat:=(List.range' 74 j).filter fun b=> !l.contains (b:Int)
def iR (l:List Int) (n:Nat):List Nat:=(kT l 950).take n
theorem aa6 (l:List Int) (j:Nat):kT l (j+1)=kT l j++(if l.contains ((74+j:Nat):Int) then [] else [74+j]):=by
 unfold kT;rw[List.range'_concat,List.filter_append,Nat.one_mul];congr 1;rw[List.filter_cons]
 cases l.contains ((74+j:Nat):Int)<;>rfl
theorem akN (l:List Int) {j:Nat} (h:j<=950):∃r,kT l 950=kT l j++r:=by
 obtain⟨d,hd⟩:∃d,950=j+d:=⟨950-j,by omega⟩;refine⟨(List.range' (74+j) d).filter fun b=> !l.contains (b:Int),?_⟩;unfold kT;rw[hd,<-List.filter_append];congr 1;rw[<-List.range'_append,Nat.one_mul]
theorem aa5 (l:List Int) (j:Nat):(kT l j).length<=j:=by
 unfold kT;exact Nat.le_trans (List.length_filter_le _ _) (by rw[List.length_range'];exact aZ _)
theorem aa7 {l:List Int} {n:Nat} (h:(kT l 950).length<=n):iR l n=kT l 950:=dF h
theorem aa8 {l:List Int} {n j:Nat} (hj:j<=950) (h:(kT l j).length=n):iR l n=kT l j:=by
 obtain⟨r,hr⟩:=akN l hj;unfold iR;rw[hr,<-h,List.take_left'];rfl
def OtA (W:World) (L:List aA) (x:aL) (p2 p5:Nat) (v12:Value) (wz:World):Prop:=
 ∃k:Nat,v12= .int .i64 (k:Int)/\k<=32/\Sat W wz (Cs p5 182 (mb (tJ x.ptrs k))::Cs p2 78 (inv x)::L)
def OtB (W:World) (L:List aA) (x:aL) (p2 p5 n:Nat) (v9 v8:Value) (wz:World):Prop:=
 ∃j:Nat,v9= .int .i64 (((74+j:Nat)):Int)/\j<=950/\(kT x.ptrs j).length<=n/\Sat W wz (Ir v8 (kT x.ptrs j)::Cs p5 182 (mb (tJ x.ptrs 32))::Cs p2 78 (inv x)::L)
def Ay (v:Value):Nat:=1024-(intOf v).toNat
theorem aa4 {j:Nat} (h:j<950):Ay (.int .i64 (((74+(j+1):Nat)):Int))<Ay (.int .i64 (((74+j:Nat)):Int)):=by
 unfold Ay;show 1024-((((74+(j+1):Nat)):Int)).toNat<1024-((((74+j:Nat)):Int)).toNat;rw[fu,fu];omega
theorem akM {j:Nat} {z:Int} (hz:z=(((74+(j+1):Nat)):Int)) (h:j<950):Ay (.int .i64 z)<Ay (.int .i64 (((74+j:Nat)):Int)):=by
 subst hz;exact aa4 h
theorem akP (O:Sat W w L) (x:aL) (V:kD x) (n:Nat) (hn:n<=9223372036854775807):
  Calls Tryz.prog 105 #[.agg (inv x).toArray, .int .i64 (n:Int)] w fun e w'=>∃v,e= .returned v/\Sat W w' (Ir v (iR x.ptrs n)::L):=by
 have HX:=Z V;have wZ:=Z V.pl;have En:=Z (show nU Tryz.prog 182=some (some (.agg (mb fun _=>false).toArray)) by kernel_rfl)
 have Mi:=Z (show((inv x).drop 5).take 32=pv x.ptrs by
  show(pv x.ptrs).take 32=_
  rw[dF (by rw[zI,V.pl];decide)])
 have QM:=Z (show(pv x.ptrs).length=32 by rw[zI,V.pl]);obtain⟨xv,hxv⟩:=au (inv x);have ug:=Z hxv;rw[hxv] at Mi ⊢;have nn:(n:Int)<=9223372036854775807:=by omega
 clear hxv V hn;go_enter Tryz.func105,Tryz.ntmps105
 go_wp2_with (first
  |(refine bV O ?_;clear O;intro p2 J O;rw[aS] at O)
  |(refine dU O ?_ (hz:=En.F);clear O;intro p5 J O;rw[aS,<-aca x.ptrs] at O)
  |(refine dm O hz1 (pv x.ptrs) ?_ (hvs:=Mi.F) (hb:=QM.F)))
 have H0:=Z O;clear O;go_loopw [12] (fun v12 wz=>OtA W L x p2 p5 v12 wz) (fun v12 _=>iV 32 v12)
 case atStart=>exact⟨0,rfl,by decide,by rw[ug.F];exact H0.F⟩
 case round=>
  clear H0;obtain⟨k,rfl,hk,O⟩:=hrel
  by_cases hlt:k<32
  ·have k2:(k:Int)<32:=by omega
   have ay:=Z hlt;obtain⟨p,hp⟩:∃p,x.ptrs[k]? =some p:=⟨_,aR (by rw[wZ.F];exact hlt)⟩
   obtain⟨I,H⟩:=Fq HX.F hp;obtain⟨q,rfl⟩:∃q:Nat,p=(q:Int):=⟨p.toNat,by omega⟩;have hix:=fun w=>Ny hlt hp w
   have q1:(q:Int)<1024:=by omega
   have rf:=Z (show q< (mb (tJ x.ptrs k)).length by rw[qz];omega);have jK:=Z ((yF (tJ x.ptrs k) true (show q<1024 by omega)).trans (by rw[ab9 hp]));clear hlt hk hp I H
   go_wp2_with (refine iA O aa ?_ (hb:=rf.F);clear O;intro J O;dsimp only[aD,aN] at O;rw[jK.F] at O)
   exact⟨⟨k+1,by go_num,ay.F,O⟩,fZ ay.F⟩
  ·obtain rfl:k=32:=by omega
   clear hlt hk;have H1:=Z O.wh;clear O;go_wp2;go_loopw [9,8] (fun v9 v8 wz=>OtB W L x p2 p5 n v9 v8 wz) (fun v9 _ _=>Ay v9)
   case atStart=>exact⟨0,rfl,by decide,eG _,H1.F⟩
   case round=>
    clear H1;obtain⟨j,rfl,hj,hln,O⟩:=hrel;have aM:=Z hln;obtain⟨Ww,c8,rfl,_⟩:=O.mg aa
    by_cases hlt:j<950
    ·have k2:(74+(j:Int))<1024:=by omega
     have k3:74+j<1024:=by omega
     have e1:decide ((((74+j:Nat)):Int)<1024)=true:=bL (by omega);have ay:=Z hlt;obtain⟨m,hm⟩:=au ((kT x.ptrs j).length);have HM:=Z hm
     by_cases zt:m<n
     ·have vN:=Z zt;have e2:(m:Int)< (n:Int):=by omega
      obtain⟨s,hs⟩:=au (x.ptrs.contains ((74+j:Nat):Int));have HQ:=Z (xC (tJ x.ptrs 32) (show 74+j<1024 by omega));rw[ab8 wZ.F,hs] at HQ;have iD:=Z (aa6 x.ptrs j);rw[hs] at iD;have uZ:m<=950:=by rw[<-hm];exact Nat.le_trans (aa5 _ _) (by omega)
      have jg:=Z uZ;rw[hm] at O ⊢;clear hm zt hj hlt hln hs uZ
      cases s with
      |true=>
       go_wp2_with (refine aH O hz1 HQ.F ?_)
       have hsu:kT x.ptrs j=kT x.ptrs (j+1):=by rw[iD.F];simp
       rw[hsu] at O;exact⟨⟨j+1,by go_num,ay.F,by rw[<-hsu];exact aM.F,O⟩,aa4 ay.F⟩
      |false=>
       go_wp2_with (first
        |(refine aH O hz1 HQ.F ?_)
        |(refine il [.int .i64 ((74+j:Nat):Int)] O ?_ (hc:=by simp[Value.cells]);clear O;intro b1 J O;rw[jC rfl] at O)
        |(at_builtin;refine aU ?_;refine rz O _ _ _ _ (by rfl) (by rfl) (by rfl) (bS (by rfl)) (by rfl) (by rfl) (by rfl) (dO (by rfl)) hz1 (m:=[74+j]) (by exact O.jc (sz:=1) aa (by decide) rfl) (by have:=jg.F;rw[HM.F];simp;omega) ?_;intro v' J hS1;clear O;have O:=hS1;clear hS1;dsimp only[aD,aN] at O))
       have hsu:kT x.ptrs j++[74+j]=kT x.ptrs (j+1):=by rw[iD.F];simp
       rw[hsu] at O;exact⟨⟨_,_,_,_,_,_,_,_,_,_,_,_,_,_,_,_,_,_,_,_,⟨j+1,by go_num,ay.F,by rw[<-hsu,bP,HM.F];exact vN.F,O.drop⟩,rfl⟩,akM (by omega) ay.F⟩
     ·have gz:=Z (aa8 hj (show(kT x.ptrs j).length=n by omega));have e2:¬(m:Int)< (n:Int):=by omega
      rw[hm] at O ⊢;clear hm zt hj hlt hln;go_wp2;go_ret;rw[gz.F];exact⟨_,rfl,(O.re [1,2,0]).drop.drop⟩
    ·obtain rfl:j=950:=by omega
     have gz:=Z (aa7 hln);clear hj hlt hln;go_wp2;go_ret;rw[gz.F];exact⟨_,rfl,(O.re [1,2,0]).drop.drop⟩
structure aT where
 at_:Int
 ino:aL
 pieces:List Int
 data:List (List UInt8)
 nP:Value
 uq:Value
 l9:List Value
def bX (x:aT):List Value:= .int .i64 x.at_::(inv x.ino++[x.nP,x.uq])
structure QT (w:World) (x:aT):Prop where
 pl:x.ino.ptrs.length=32
 s1: -9223372036854775808<=x.ino.size
 s2:x.ino.size<=9223372036854775807
 p:Rd w x.nP x.pieces.length 1 (pv x.pieces)
 dl:x.l9.length=x.data.length
 d:Rd w x.uq x.data.length 1 x.l9
 b:∀(k:Nat) v c,x.l9[k]? =some v->x.data[k]? =some c->Rd w v c.length 1 (bv c)
def Gg (w:World) (v:Value) (l:List aT):Prop:=Rd w v l.length 40 (l.flatMap bX)/\∀x∈l,QT w x
theorem AJ {x:aT} (h:x.ino.ptrs.length=32):(bX x).length=40:=by
 unfold bX;rw[fB,bP,fe,h];rfl
theorem OW {x:aT} (h:x.ino.ptrs.length=32):((bX x).drop 1).take 37=inv x.ino:=by
 unfold bX;rw[List.drop_succ_cons,kz,List.take_append_of_le_length (by rw[fe,h];exact aZ _),dF (by rw[fe,h];exact aZ _)]
theorem FI {x:aT} (h:x.ino.ptrs.length=32):(bX x)[38]? =some x.nP:=by
 unfold bX;rw[xO,rP (by rw[fe,h];decide),fe,h];rfl
theorem OV {x:aT} (h:x.ino.ptrs.length=32):(bX x)[39]? =some x.uq:=by
 unfold bX;rw[xO,rP (by rw[fe,h];decide),fe,h];rfl
def pQ (S:aK) (x:aT):aL:=S.aB[x.at_.toNat]?.getD bC
def o8 (l:List aT) (i:Nat) (q:Nat):Bool:=(l.take i).any fun y=>y.at_==(q:Int)
theorem amX (l:List aT):o8 l 0=fun _=>false:=by funext q;simp[o8]
theorem amW {l:List aT} {i:Nat} {x:aT} {q:Nat} (V:l[i]? =some x) (hq:x.at_=(q:Int)):upd (o8 l i) q true=o8 l (i+1):=by
 funext p;unfold upd o8;rw[ik,V,Option.toList_some,List.any_append]
 by_cases h:p=q
 ·subst h;simp[hq]
 ·rw[if_neg h];have:¬((q:Int)=(p:Int)):=by omega
  simp[hq,this]
def wI (S:aK) (l:List aT) (i:Nat) (x:aT):Bool:=
 (!decide (x.at_<0)&& !decide (48<=x.at_))&&(!o8 l i x.at_.toNat&&(x.data.length==x.pieces.length&&(x.data.all (fun c=>c.length==128)&&lX (pQ S x) x.ino x.pieces (iR (pQ S x).ptrs x.pieces.length))))
def jT (S:aK) (l:List aT):Bool:=decide (l.length<=8)&&(List.range l.length).all fun i=>match l[i]? with|none=>true|some x=>wI S l i x
theorem FE {S:aK} {l:List aT} {i:Nat} {x:aT} (V:l[i]? =some x) (h:wI S l i x=false):jT S l=false:=by
 unfold jT
 have:(List.range l.length).all (fun i=>match l[i]? with|none=>true|some x=>wI S l i x)=false:=by
  rw[List.all_eq_false];refine⟨i,jD.2 (bZ.1 V).1,?_⟩;rw[V];dsimp only;rw[h];decide
 rw[this,Bool.and_false]
theorem abL {S:aK} {l:List aT} (h8:l.length<=8) (h:∀(i:Nat) x,l[i]? =some x->wI S l i x=true):jT S l=true:=by
 unfold jT;rw[bL h8,Bool.true_and,jV];intro i hi;obtain⟨x,V⟩:∃x,l[i]? =some x:=⟨_,aR (jD.1 hi)⟩
 rw[V];exact h i _ V
theorem zJ {S:aK} {l:List aT} (h:jT S l=true):l.length<=8/\∀(i:Nat) x,l[i]? =some x->wI S l i x=true:=by
 unfold jT at h;rw[ed,decide_eq_true_eq,jV] at h;refine⟨h.1,fun i x V=>?_⟩;have:=h.2 i (jD.2 (bZ.1 V).1);rw[V] at this;exact this
def yG (n:Nat) (S:Nat->Bool):List Value:=(List.range n).map fun i=>Value.bool (S i)
theorem NP (n:Nat) (S:Nat->Bool):(yG n S).length=n:=by unfold yG;rw[qa,List.length_range]
theorem NN (S:Nat->Bool) {n i:Nat} (h:i<n):(yG n S)[i]? =some (.bool (S i)):=by
 unfold yG;rw[kY,List.getElem?_range h];rfl
theorem aj8 (S:Nat->Bool) {n i:Nat} (u:Bool) (h:i<n):(yG n S).set i (.bool u)=yG n (upd S i u):=by
 apply List.ext_getElem?;intro j;rw[yX]
 by_cases e:i=j
 ·subst e;rw[if_pos rfl,if_pos (by rw[NP];exact h),NN _ h];simp[upd]
 ·rw[if_neg e]
  by_cases hj:j<n
  ·rw[NN _ hj,NN _ hj];simp[upd,Ne.symm e]
  ·rw[qE (by rw[NP];omega),qE (by rw[NP];omega)]
attribute [local irreducible] Sep.fJ
theorem QS {w:World} {v:Value} {n sz:Nat} {vs:List Value} (h:Rd w v n sz vs):v.oneCell'=true:=by
 obtain⟨ao,c,rfl,_⟩:=h;rfl
theorem T9 {w:World} {x:aT} (h:QT w x):∀u∈bX x,u.oneCell'=true:=by
 intro u hu;unfold bX at hu
 rcases oK.1 hu with rfl|hu
 ·rfl
 ·rcases gy.1 hu with hu|hu
  ·exact inv_one _ u hu
  ·simp only[oK,nE,or_false] at hu
   rcases hu with rfl|rfl
   ·exact QS h.p
   ·exact QS h.d
theorem aaE (O:Sat W w L) (old now:aL) (ho:kD old) (hn:now.ptrs.length=32) (hs1: -9223372036854775808<=now.size) (hs2:now.size<=9223372036854775807) (pieces:List Int) (taken:List Nat) (ap:Option Addr) (tv:Value) (cp:Nat) {np:Nat} (fT:pieces.length=np)
  (zw:∀w L',Sat W w (L'++L)->Rd w (.slice ap np cp) np 1 (pv pieces)) (hrt:∀w L',Sat W w (L'++L)->Rd w tv taken.length 1 (iv taken)):
  Calls Tryz.prog 67 #[.agg (inv old).toArray, .agg (inv now).toArray, .slice ap np cp,tv] w fun e w'=>zY W L old now pieces taken e w':=by
 subst fT;obtain⟨at_,ct,rfl,_⟩:=hrt w [] O;exact akg O old now ho hn hs1 hs2 pieces taken ap at_ cp ct zw hrt
def RgI (W:World) (L:List aA) (ps pd p5:Nat) (S:aK) (l:List aT) (v18:Value) (wz:World):Prop:=
 ∃i:Nat,v18= .int .i64 (i:Int)/\i<=l.length/\(∀j x,j<i->l[j]? =some x->wI S l j x=true)/\Sat W wz (Cs p5 174 (yG 48 (o8 l i))::bF ps pd S::L)
def RgD (W:World) (L:List aA) (p7:Nat) (R:List aA) (x:aT) (v51:Value) (wz:World):Prop:=
 ∃k:Nat,v51= .int .i64 (k:Int)/\k<=x.data.length/\(∀j c,j<k->x.data[j]? =some c->c.length=128)/\Sat W wz (Cs p7 133 (bX x)::R)
theorem ams {ps pd:Nat} {S:aK} (O:Sat W w (bF ps pd S::L)) (hX:iH S.aB) (l:List aT) (aq:Option Addr) (cq:Nat) (hr:∀w L',Sat W w (L'++L)->Gg w (.slice aq l.length cq) l):
  Calls Tryz.prog 65 #[.pointer (some ⟨ps,0,none⟩), .slice aq l.length cq] w fun e w'=>e= .returned (.bool (jT S l))/\Sat W w' (bF ps pd S::L):=by
 have HR:=Z hr;have HX:=Z hX;obtain⟨_,_,he,hc1,hc2,_,h5⟩:=(hr w [_] O).1;obtain⟨rfl,rfl⟩:=gq he;have H5:=Z h5;have iC:=Z (show ∀x∈l,(bX x).length=40 from fun x V=>AJ ((hr w [_] O).2 x V).pl);have eX:=Z (show ∀x∈l,x.ino.ptrs.length=32 from fun x V=>((hr w [_] O).2 x V).pl);have En:=Z (show nU Tryz.prog 174=some (some (.agg (yG 48 fun _=>false).toArray)) by kernel_rfl);obtain⟨ln,hln⟩:=au l.length;have aM:=Z hln;have pM:(ln:Int)<=9223372036854775807:=by omega
 clear hr hX h5;rw[hln]
 by_cases h8:8<ln
 ·have qX:=Z (show jT S l=false by unfold jT;rw[hln,bf (by omega)];rfl);have RZ:(8:Int)< (ln:Int):=by omega
  clear hln hc1 hc2 h8;go_enter Tryz.func65,Tryz.ntmps65;go_wp2;go_ret;rw[qX.F];exact⟨rfl,O⟩
 have RZ:¬((8:Int)< (ln:Int)):=by omega
 have H8:=Z (show l.length<=8 by omega);clear hln hc1 hc2 h8;go_enter Tryz.func65,Tryz.ntmps65
 go_wp2_with (refine dU O ?_ (hz:=En.F);clear O;intro p5 J O;rw[aS,<-amX l] at O)
 have H0:=Z O;clear O En;go_loopw [18] (fun v18 wz=>RgI W L ps pd p5 S l v18 wz) (fun v18 _=>iV ln v18)
 case atStart=>exact⟨0,rfl,eG _,fun j x hj=>absurd hj (qd _),H0.F⟩
 case round=>
  clear H0;obtain⟨i,rfl,hi,hall,O⟩:=hrel;rw[aM.F] at hi;have jE:=Z hall;clear hall
  by_cases hlt:i<ln
  ·have k1:(i:Int)< (ln:Int):=by omega
   have ay:=Z hlt;obtain⟨pb,po,rfl,_⟩:=H5.F (by have:=aM.F;omega);obtain⟨x,V⟩:∃x,l[i]? =some x:=⟨_,aR (by have:=aM.F;omega)⟩
   have dD:=Z V;have hxm:=bJ V;have iY:=Z (HR.F _ [_,_] O).1;have hpl:=eX.F x hxm;have eY:=Z (iC.F x hxm);have ru:=Z hxm;have mH:=Z (show ∀u∈bX x,u.oneCell'=true from T9 ((HR.F _ [_,_] O).2 x hxm));have G0:=Z (show(bX x)[0]? =some (.int .i64 x.at_) from rfl);have jf:=Z (FI hpl);have jW:=Z (OV hpl);have qW:=Z (OW hpl);have hso:wI S l i x=((!decide (x.at_<0)&& !decide (48<=x.at_))&&(!o8 l i x.at_.toNat&&(x.data.length==x.pieces.length&&(x.data.all (fun c=>c.length==128)&&lX (pQ S x) x.ino x.pieces (iR (pQ S x).ptrs x.pieces.length))))):=rfl;obtain⟨mD,hsv⟩:=au (bX x);rw[hsv] at eY mH G0 jf jW qW;have vP:=Z hsv;obtain⟨q,hq⟩:=au x.at_;rw[hq] at hso G0;have HQ:=Z hq;obtain⟨c1,hc1⟩:=au (decide (q<0));obtain⟨c2,hc2⟩:=au (decide (48<=q));rw[hc1,hc2] at hso;have jQ:=Z hso;clear V hxm hpl hso hsv hq hlt hi
   cases c1 with
   |true=>
    go_wp2_with (first|(refine bN (v:= .agg mD.toArray) ((nz (f:=bX) (x:=x) iY.F iC.F _ _ (by rfl) _ (by rfl) (aI (by rfl)) (bz (by rfl)) i (by omega) dD.F (by have:=ay.F;have:=aM.F;omega)).trans (by rw[vP.F])) ?_)|(refine dU O ?_;clear O;intro p7 J O;rw[aS] at O)|(refine eT mD O aa ?_ (hv:=mH.F) (hn:=by rw[eY.F];exact bz (by rfl)) (hb:=by rw[eY.F];rfl);clear O;intro J O;rw[aD] at O)|(refine aH O aa G0.F ?_))
    go_ret;rw[FE dD.F (jQ.F.trans rfl)];exact⟨rfl,O.drop.drop⟩
   |false=>
   cases c2 with
   |true=>
    go_wp2_with (first|(refine bN (v:= .agg mD.toArray) ((nz (f:=bX) (x:=x) iY.F iC.F _ _ (by rfl) _ (by rfl) (aI (by rfl)) (bz (by rfl)) i (by omega) dD.F (by have:=ay.F;have:=aM.F;omega)).trans (by rw[vP.F])) ?_)|(refine dU O ?_;clear O;intro p7 J O;rw[aS] at O)|(refine eT mD O aa ?_ (hv:=mH.F) (hn:=by rw[eY.F];exact bz (by rfl)) (hb:=by rw[eY.F];rfl);clear O;intro J O;rw[aD] at O)|(refine aH O aa G0.F ?_))
    go_ret;rw[FE dD.F (jQ.F.trans rfl)];exact⟨rfl,O.drop.drop⟩
   |false=>
   have hq0:=of_decide_eq_false hc1;have aiW:=of_decide_eq_false hc2;obtain⟨n,rfl⟩:∃n:Nat,q=(n:Int):=⟨q.toNat,by omega⟩;rw[fu] at jQ;have F5:=Z (show n<48 by omega);have n48:(n:Int)<48:=by omega
   have LX:=Z (NN (o8 l i) (show n<48 by omega));obtain⟨s,hs⟩:=au (o8 l i n);rw[hs] at jQ LX;clear hs hq0 aiW
   cases s with
   |true=>
    go_wp2_with (first|(refine bN (v:= .agg mD.toArray) ((nz (f:=bX) (x:=x) iY.F iC.F _ _ (by rfl) _ (by rfl) (aI (by rfl)) (bz (by rfl)) i (by omega) dD.F (by have:=ay.F;have:=aM.F;omega)).trans (by rw[vP.F])) ?_)|(refine dU O ?_;clear O;intro p7 J O;rw[aS] at O)|(refine eT mD O aa ?_ (hv:=mH.F) (hn:=by rw[eY.F];exact bz (by rfl)) (hb:=by rw[eY.F];rfl);clear O;intro J O;rw[aD] at O)|(refine aH O aa G0.F ?_)|(refine aH O hz1 LX.F ?_)|(refine aH O aa jf.F ?_)|(refine aH O aa jW.F ?_))
    go_ret;rw[FE dD.F (jQ.F.trans rfl)];exact⟨rfl,O.drop.drop⟩
   |false=>
   have nN:=(HR.F _ [_,_] O).2 x ru.F;have CJ:=Z nN;obtain⟨ap,cp,hpv⟩:∃ao c,x.nP= .slice ao x.pieces.length c:=by obtain⟨ao,c,he,_⟩:=nN.p;exact⟨ao,c,he⟩
   obtain⟨ad,cd,hdv⟩:∃ao c,x.uq= .slice ao x.data.length c:=by obtain⟨ao,c,he,_⟩:=nN.d;exact⟨ao,c,he⟩
   obtain⟨np,fT⟩:=au x.pieces.length;obtain⟨nd,hnd⟩:=au x.data.length;rw[hpv,fT] at jf;rw[hdv,hnd] at jW;rw[fT,hnd] at jQ;have qH:=Z fT;have dP:=Z hnd;have uR:=Z hpv;have zQ:=Z hdv;clear fT hnd hpv hdv nN
   by_cases hdp:nd=np
   ·have e5:((nd:Int) != (np:Int))=false:=by rw[hdp];simp
    have e6:(nd==np)=true:=beq_iff_eq.2 hdp;rw[e6] at jQ;have rf:=Z (show n< (yG 48 (o8 l i)).length by rw[NP];exact F5.F);have jK:=Z ((aj8 (o8 l i) true F5.F).trans (by rw[amW dD.F HQ.F]))
    have ndi:(nd:Int)<=9223372036854775807:=by
     obtain⟨_,_,he,I,H,_⟩:=CJ.F.d;have:=dP.F;omega
    clear e6 hdp
    go_wp2_with (first|(refine bN (v:= .agg mD.toArray) ((nz (f:=bX) (x:=x) iY.F iC.F _ _ (by rfl) _ (by rfl) (aI (by rfl)) (bz (by rfl)) i (by omega) dD.F (by have:=ay.F;have:=aM.F;omega)).trans (by rw[vP.F])) ?_)|(refine dU O ?_;clear O;intro p7 J O;rw[aS] at O)|(refine eT mD O aa ?_ (hv:=mH.F) (hn:=by rw[eY.F];exact bz (by rfl)) (hb:=by rw[eY.F];rfl);clear O;intro J O;rw[aD] at O)|(refine aH O aa G0.F ?_)|(refine aH O hz1 LX.F ?_)|(refine aH O aa jf.F ?_)|(refine aH O aa jW.F ?_)|(refine iA O hz1 ?_ (hb:=rf.F);clear O;intro J O;rw[aN,aD,jK.F] at O))
    have H1:=Z O;clear O;go_loopw [51] (fun v51 wz=>RgD W L p7 (Cs p5 174 (yG 48 (o8 l (i+1)))::bF ps pd S::L) x v51 wz) (fun v51 _=>iV nd v51)
    case atStart=>exact⟨0,rfl,eG _,fun j c hj=>absurd hj (qd _),by rw[vP.F];exact H1.F⟩
    case round=>
     clear H1;obtain⟨k,rfl,hk,zq,O⟩:=hrel;rw[vP.F] at O;rw[dP.F] at hk;have Ct:=Z zq;clear zq
     by_cases hkl:k<nd
     ·have k2:(k:Int)< (nd:Int):=by omega
      have oN:=Z hkl;have nN:=(HR.F _ [_,_,_] O).2 x ru.F;have hrd:=nN.d;rw[zQ.F,dP.F] at hrd;obtain⟨_,_,he,_,_,_,h7⟩:=id hrd;obtain⟨rfl,rfl⟩:=gq he;obtain⟨db,Gx,rfl,_⟩:=h7 (by omega);have iB:=Z hrd;obtain⟨c,hc⟩:∃c,x.data[k]? =some c:=⟨_,aR (by rw[dP.F];exact hkl)⟩
      obtain⟨v,hv⟩:∃v,x.l9[k]? =some v:=⟨_,aR (by rw[nN.dl,dP.F];exact hkl)⟩
      obtain⟨vc,IJ,rfl,_⟩:=nN.b k v c hv hc;obtain⟨lc,hlc⟩:=au c.length;rw[hlc] at hv;have HV:=Z hv;have HC:=Z hc;have Ja:=Z hlc;clear hk hkl nN hrd h7 hc hv hlc
      by_cases h128:lc=128
      ·subst h128
       go_wp2_with (refine bN (fF iB.F _ _ (by rfl) _ (by rfl) (aI (by rfl)) k (by omega) HV.F (by have:=oN.F;omega)) ?_)
       exact⟨⟨k+1,by go_num,by rw[dP.F];exact oN.F,fun j d hj hd=>by
        by_cases e:j=k
        ·subst e;rw[HC.F] at hd;rw[<-ig hd];exact Ja.F
        ·exact Ct.F j d (by omega) hd,by rw[vP.F];exact O⟩,fZ oN.F⟩
      ·have e7:((lc:Int) != 128)=true:=bne_iff_ne.2 (by omega)
       have hall:x.data.all (fun c=>c.length==128)=false:=by
        rw[List.all_eq_false];exact⟨c,bJ HC.F,by rw[Ja.F,dH.2 h128];decide⟩
       rw[hall] at jQ;clear hall h128
       go_wp2_with (refine bN (fF iB.F _ _ (by rfl) _ (by rfl) (aI (by rfl)) k (by omega) HV.F (by have:=oN.F;omega)) ?_)
       go_ret;rw[FE dD.F (jQ.F.trans rfl)];exact⟨rfl,O.drop.drop⟩
     ·obtain rfl:k=nd:=by omega
      have k2:¬(k:Int)< (k:Int):=by omega
      have hall:x.data.all (fun c=>c.length==128)=true:=by
       rw[jV];intro c hc;obtain⟨j,hj⟩:=jJ hc;rw[Ct.F j c (by have:=(bZ.1 hj).1;have:=dP.F;omega) hj];rfl
      rw[hall] at jQ;have aiK:∃y,S.aB[n]? =some y:=⟨_,aR (by rw[HX.F.len];exact F5.F)⟩
      obtain⟨y,hy⟩:=aiK;have yA:=HX.F.ok y (bJ hy);have hyv:pQ S x=y:=by unfold pQ;rw[HQ.F,fu,hy];rfl
      rw[hyv] at jQ;have HY:=Z hy;have nN:=(HR.F _ [_,_,_] O).2 x ru.F;have qg:=Z nN.s1;have HS2:=Z nN.s2;have zb:=Z nN.pl
      have wW:=Z (show ∀w M,Sat W w (M++L)->Rd w (.slice ap np cp) np 1 (pv x.pieces) from fun w M h=>by
       have:=((HR.F w M h).2 x ru.F).p;rw[uR.F,qH.F] at this
       exact this)
      have Hm:np<=9223372036854775807:=by
       obtain⟨_,_,he,I,H,_⟩:=nN.p;have:=qH.F;omega
      obtain⟨fv,r,hS1⟩:=bF.open (O.re [2,0,1])
      have iG:=Z (fun w M h=>bF.mk (W:=W) (w:=w) (L:=M) (ps:=ps) (pd:=pd) (S:=S) (fv:=fv) (r:=r) h);have oU:=Z (O7 (pd:=pd) (s:=S.sup) (fv:=fv) (r:=r) (last:=S.last) HX.F hy);have hS2:=hS1.re [3,0,4,1,2];clear O hS1;have O:=hS2;clear hS2;have q8:=Z (fun w M (h:Sat W w M)=>akP h y yA np Hm);have dJ:=Z (fun w vo (M:List aA) (h:Sat W w (Ir vo (iR y.ptrs np)::(M++L)))=>aaE h y x.ino yA zb.F qg.F HS2.F x.pieces (iR y.ptrs np) ap vo cp qH.F (fun w L' h=>wW.F w (L'++(Ir vo (iR y.ptrs np)::M)) (by rw[dX];exact h)) (fun w L' h=>h.oG (has_add aa L')));have wT:=Z (show(inv y).length=37 by rw[fe,yA.pl]);have wS:=Z (show(inv x.ino).length=37 by rw[fe,zb.F]);obtain⟨iy,vY⟩:=au (inv y);obtain⟨ix,hix⟩:=au (inv x.ino);rw[vY] at oU q8 wT;rw[hix] at qW wS;obtain⟨ok,hok⟩:=au (lX y x.ino x.pieces (iR y.ptrs np));rw[hok] at jQ;have tZ:=Z (inv_one (jF y x.ino x.pieces (iR y.ptrs np)));have jh:=Z (show(inv (jF y x.ino x.pieces (iR y.ptrs np))).length=37 by rw[fe,Dp]);have HZ1:=Z (inv_one bC);have fQ:=Z (show(inv bC).length=37 from rfl)
      have wU:=Z (fun(ht:ok=true) w vo M (h:Sat W w (Ir vo (iR y.ptrs np)::(M++L)))=>(dJ.F w vo M h).mono (fun e w' (hE:zY W _ _ _ _ _ e w')=>(show ∃vg,e= .returned (.tuple #[.agg (inv (jF y x.ino x.pieces (iR y.ptrs np))).toArray,vg, .bool true])/\Sat W w' (Ir vg (nu y (jF y x.ino x.pieces (iR y.ptrs np)) 32)::Ir vo (iR y.ptrs np)::(M++L)) from by
       rcases hE with⟨_,h⟩|⟨hn,_⟩
       ·exact h
       ·rw[hok,ht] at hn
        exact absurd hn (by decide))))
      have za:=Z (fun(ht:ok=false) w vo M (h:Sat W w (Ir vo (iR y.ptrs np)::(M++L)))=>(dJ.F w vo M h).mono (fun e w' (hE:zY W _ _ _ _ _ e w')=>(show e= .returned (.tuple #[.agg (inv bC).toArray, .slice none 0 0, .bool false])/\Sat W w' (Ir vo (iR y.ptrs np)::(M++L)) from by
       rcases hE with⟨hn,_⟩|⟨_,h⟩
       ·rw[hok,ht] at hn;exact absurd hn (by decide)
       ·exact h)))
      obtain⟨gone,vX⟩:=au (nu y (jF y x.ino x.pieces (iR y.ptrs np)) 32);obtain⟨ni,hni⟩:=au (inv (jF y x.ino x.pieces (iR y.ptrs np)));obtain⟨zi,hzi⟩:=au (inv bC);rw[hni] at wU tZ jh;rw[vX] at wU;rw[hzi] at za HZ1 fQ;rw[vY,hix] at wU za;clear hall hk hkl hy yA hyv nN vY hix hok hni hzi Hm vX dJ
      cases ok with
      |true=>
       have dJ:=Z (wU.F rfl);clear wU za;go_wp2
       (refine ll (pO [0,1]<|rO [2]<|pO [3,4,5]<|rO [6]<|pO [7]<|rO [8]<|pO [9]<|rO [10]<|pO [11,12]<|rO [13]<|pO [14,15,16]<|rO [17]<|pO [18]<|rO [19]<|pO [20]<| .m 21 27 (.m 22 27 (pO [23,24,25,26]<|aO [27]<| .e) (aO [22]<|pO [23,24,25,26]<| .e)) (aO [21]<|aO [22]<|pO [23,24,25,26]<| .e)) [28] O (fun _ h=>h.take2) ?_;clear O;intro J O)
       repeat (first
        |(refine bG O ?_;go_frame)
        |(refine bR O ?_;(first
               |refine bK aa G0.F ?_
               |refine bK aa jf.F ?_
               |refine lY hz1 iy ?_ (hvs:=oU.F) (hb:=wT.F)
               |refine lY aa ix ?_ (hvs:=qW.F) (hb:=wS.F));go_frame))
       revert O;apply Ca (aO [28]<|pO [29,30]<| .e) (fun(uJ _b2 _b3:Nat) (vo vg _v3:Value) w'=>Sat W w' (Cs uJ 78 (List.replicate 37 (.int .i64 0))::Ir vg gone::Ir vo (iR y.ptrs np)::Cs p7 133 mD::Cs ps 112 (bU pd S.sup fv S.aB r S.last)::Cs p5 174 (yG 48 (o8 l (i+1)))::IsMap fv S.U::Tb 100 3 rv r S.recs::L)) ([Cs p7 133 mD,Cs ps 112 (bU pd S.sup fv S.aB r S.last)])
       case I=>
        intro hJ O
        repeat' (first
         |(refine bG O ?_;go_frame)
           |(refine bY fun K hK=>?_;(first|(refine dst 81 ?_;refine cK (q8.F _ _ O) ?_;clear O;rintro e J ⟨vo,rfl,O⟩;refine⟨_,rfl,?_⟩)|(refine dst 82 ?_;(first|refine cK (dJ.F _ _ [_,_,_,_,_] O) ?_|refine cK (dJ.F _ _ [_,_,_,_,_,_] O.bW) ?_|refine cK (dJ.F _ _ [_,_,_,_,_,_] O) ?_);clear O;rintro e J ⟨vg,rfl,O⟩;refine⟨_,rfl,?_⟩)|(refine dst 10 ?_;refine uW O ?_;clear O;intro uJ J O;rw[aS] at O));refine hK.up O ?_;clear hK K;go_frame)
           |(refine Cc ?_ ?_<;>(intro K hK;(first|(refine dst 81 ?_;refine cK (q8.F _ _ O) ?_;clear O;rintro e J ⟨vo,rfl,O⟩;refine⟨_,rfl,?_⟩)|(refine dst 82 ?_;(first|refine cK (dJ.F _ _ [_,_,_,_,_] O) ?_|refine cK (dJ.F _ _ [_,_,_,_,_,_] O.bW) ?_|refine cK (dJ.F _ _ [_,_,_,_,_,_] O) ?_);clear O;rintro e J ⟨vg,rfl,O⟩;refine⟨_,rfl,?_⟩)|(refine dst 10 ?_;refine uW O ?_;clear O;intro uJ J O;rw[aS] at O));refine hK.up O ?_;clear hK K;go_frame))
           |(refine Cb ?_;refine(fun(g:Nat->Nat->Value->Value->_)=>g 0 0 (.slice none 0 0) (.slice none 0 0)) ?_;intro x2 x3 y2 y3;first|exact hJ uJ x2 x3 vo vg y3 _ O|exact hJ uJ x2 x3 vo vg y3 _ (O.re [2,0,1])|exact hJ uJ x2 x3 vo vg y3 _ (O.re [1,0])))
       intro uJ _ _ vo vg _ J O
       repeat (first
        |(refine bG O ?_;go_frame)
        |(refine bY fun K hK=>?_;(refine DF ni O aa ?_ (hv:=tZ.F) (hn:=by rw[jh.F];exact bz (by rfl)) (hb:=by rw[jh.F];rfl);clear O;intro J O;dsimp only[aD,aN] at O);refine hK.up O ?_;clear hK K;go_frame))
       refine bO ?_;go_wp2;have h9:=iG.F _ _ (O.re [4,6,7,5,0,1,2,3])
       exact⟨⟨i+1,by go_num,by rw[aM.F];exact ay.F,fun j z hj hz=>by
        by_cases e:j=i
        ·subst e;rw[dD.F] at hz;rw[<-ig hz];exact jQ.F.trans rfl
        ·exact jE.F j z (by omega) hz,(h9.re [2,3,4,5,1,0]).drop.drop.drop.drop⟩,fZ ay.F⟩
      |false=>
       have dJ:=Z (za.F rfl);clear wU za;go_wp2
       (refine ll (pO [0,1]<|rO [2]<|pO [3,4,5]<|rO [6]<|pO [7]<|rO [8]<|pO [9]<|rO [10]<|pO [11,12]<|rO [13]<|pO [14,15,16]<|rO [17]<|pO [18]<|rO [19]<|pO [20]<| .m 21 27 (.m 22 27 (pO [23,24,25,26]<|aO [27]<| .e) (aO [22]<|pO [23,24,25,26]<| .e)) (aO [21]<|aO [22]<|pO [23,24,25,26]<| .e)) [28] O (fun _ h=>h.take2) ?_;clear O;intro J O)
       repeat (first
        |(refine bG O ?_;go_frame)
        |(refine bR O ?_;(first
               |refine bK aa G0.F ?_
               |refine bK aa jf.F ?_
               |refine lY hz1 iy ?_ (hvs:=oU.F) (hb:=wT.F)
               |refine lY aa ix ?_ (hvs:=qW.F) (hb:=wS.F));go_frame))
       revert O;apply Ca (aO [28]<|pO [29,30]<| .e) (fun(uJ _b2 _b3:Nat) (vo _vg _v3:Value) w'=>Sat W w' (Cs uJ 78 (List.replicate 37 (.int .i64 0))::Ir vo (iR y.ptrs np)::Cs p7 133 mD::Cs ps 112 (bU pd S.sup fv S.aB r S.last)::Cs p5 174 (yG 48 (o8 l (i+1)))::IsMap fv S.U::Tb 100 3 rv r S.recs::L)) ([Cs p7 133 mD,Cs ps 112 (bU pd S.sup fv S.aB r S.last)])
       case I=>
        intro hJ O
        repeat' (first
         |(refine bG O ?_;go_frame)
           |(refine bY fun K hK=>?_;(first|(refine dst 81 ?_;refine cK (q8.F _ _ O) ?_;clear O;rintro e J ⟨vo,rfl,O⟩;refine⟨_,rfl,?_⟩)|(refine dst 82 ?_;(first|refine cK (dJ.F _ _ [_,_,_,_,_] O) ?_|refine cK (dJ.F _ _ [_,_,_,_,_,_] O.bW) ?_|refine cK (dJ.F _ _ [_,_,_,_,_,_] O) ?_);clear O;rintro e J ⟨rfl,O⟩;refine⟨_,rfl,?_⟩)|(refine dst 10 ?_;refine uW O ?_;clear O;intro uJ J O;rw[aS] at O));refine hK.up O ?_;clear hK K;go_frame)
           |(refine Cc ?_ ?_<;>(intro K hK;(first|(refine dst 81 ?_;refine cK (q8.F _ _ O) ?_;clear O;rintro e J ⟨vo,rfl,O⟩;refine⟨_,rfl,?_⟩)|(refine dst 82 ?_;(first|refine cK (dJ.F _ _ [_,_,_,_,_] O) ?_|refine cK (dJ.F _ _ [_,_,_,_,_,_] O.bW) ?_|refine cK (dJ.F _ _ [_,_,_,_,_,_] O) ?_);clear O;rintro e J ⟨rfl,O⟩;refine⟨_,rfl,?_⟩)|(refine dst 10 ?_;refine uW O ?_;clear O;intro uJ J O;rw[aS] at O));refine hK.up O ?_;clear hK K;go_frame))
           |(refine Cb ?_;refine(fun(g:Nat->Nat->Value->Value->_)=>g 0 0 (.slice none 0 0) (.slice none 0 0)) ?_;intro x2 x3 y2 y3;first|exact hJ uJ x2 x3 vo y2 y3 _ O|exact hJ uJ x2 x3 vo y2 y3 _ (O.re [2,0,1])|exact hJ uJ x2 x3 vo y2 y3 _ (O.re [1,0])))
       intro uJ _ _ vo vg _ J O
       repeat (first
        |(refine bG O ?_;go_frame)
        |(refine bY fun K hK=>?_;(refine DF zi O aa ?_ (hv:=HZ1.F) (hn:=by rw[fQ.F];exact bz (by rfl)) (hb:=by rw[fQ.F];rfl);clear O;intro J O;dsimp only[aD,aN] at O);refine hK.up O ?_;clear hK K;go_frame))
       refine bO ?_;go_wp2;go_ret;rw[FE dD.F (jQ.F.trans rfl)];exact⟨rfl,((iG.F _ _ (O.re [3,5,6,4,0,1,2])).re [1,2,3,4,0]).drop.drop.drop.drop⟩
   ·have e5:((nd:Int) != (np:Int))=true:=bne_iff_ne.2 (by omega);have e6:(nd==np)=false:=dH.2 hdp;rw[e6] at jQ;clear e6 hdp
    go_wp2_with (first|(refine bN (v:= .agg mD.toArray) ((nz (f:=bX) (x:=x) iY.F iC.F _ _ (by rfl) _ (by rfl) (aI (by rfl)) (bz (by rfl)) i (by omega) dD.F (by have:=ay.F;have:=aM.F;omega)).trans (by rw[vP.F])) ?_)|(refine dU O ?_;clear O;intro p7 J O;rw[aS] at O)|(refine eT mD O aa ?_ (hv:=mH.F) (hn:=by rw[eY.F];exact bz (by rfl)) (hb:=by rw[eY.F];rfl);clear O;intro J O;rw[aD] at O)|(refine aH O aa G0.F ?_)|(refine aH O hz1 LX.F ?_)|(refine aH O aa jf.F ?_)|(refine aH O aa jW.F ?_))
    go_ret;rw[FE dD.F (jQ.F.trans rfl)];exact⟨rfl,O.drop.drop⟩
  ·obtain rfl:i=ln:=by omega
   have k1:¬(i:Int)< (i:Int):=by omega
   have HY:=Z (abL H8.F (fun j x V=>jE.F j x (by have:=(bZ.1 V).1;have:=aM.F;omega) V));clear hlt hi;go_wp2;go_ret;rw[HY.F];exact⟨rfl,O.drop⟩
end Go.Proofs.YtjbiihbicknemaaGreat
