/-
  Part of the proof of StoreWhole.
-/
import Derived.Test.YtjbiihbicknemaaGreatMRwi
import Derived.Test.YtjbiihbicknemaaGreatMWlq
import Derived.Laws.Concat
set_option linter.unusedSimpArgs false
set_option linter.unusedVariables false
set_option maxRecDepth 20000
set_option maxHeartbeats 40000000
namespace Go.Proofs.YtjbiihbicknemaaGreat
open Go.RowKit Go.Sep
variable {W w:World} {L:List aA}
attribute [local irreducible] Oper.wp wpList Calls Code.wp Sep.dR
theorem alY {p:Nat} {D:aG} {R:dh} (O:Sat W w (aW p R::L)) (hR:Rel D R) (n:Int) (ao:Option Addr) (c:Nat) (b:List UInt8) (hb:∀w,Sat W w L->Rd w (.slice ao b.length c) b.length 1 (bv b)) (hw:D.writes.length<=100000):
  Calls Tryz.prog 35 #[.pointer (some ⟨p,0,none⟩), .int .i64 n, .slice ao b.length c] w fun e w'=>e= .returned (.int .i64 (gp D n b.length))/\Sat W w' (aW p (rH D R n b)::L):=by
 unfold gp rH
 by_cases I:D.dead=true
 ·simp only[if_pos I];exact(al4 O n _ (hR.dead▸I)).mono fun e w' ⟨he,hw⟩=>⟨he,hw▸O⟩
 have h1':R.dead=false:=by rw[<-hR.dead];simpa using I
 simp only[if_neg I];have hlen:=hR.blocks
 by_cases H:bad D.blocks.length n b.length
 ·simp only[if_pos H];exact(al0 O n _ _ _ h1' (hlen▸H)).mono fun e w' ⟨he,hw⟩=>⟨he,hw▸O⟩
 simp only[if_neg H];unfold bad at H;rw[hlen] at H;obtain⟨k,rfl⟩:=Int.eq_ofNat_of_zero_le (show 0<=n by omega);have hbl:b.length=128:=by omega
 rw[hbl] at hb ⊢;have hll:=hR.left;have hlo:=hR.lo
 by_cases h3:D.left=0
 ·simp only[if_pos h3];have ha:R.armed=true:=by cases ha:R.armed<;>simp[ha] at hll<;>first|omega|rfl
  exact al3 O k _ _ h1' (by omega) ha (by simp[ha] at hll;omega)
 ·simp only[if_neg h3];exact al5 O k _ _ b hb h1' (by omega) (fun ha h0=>h3 (by rw[hll,ha,if_pos rfl,h0])) hlo hR.hi (by rw[<-hR.writes];omega) (by rw[<-hlen];exact hR.ok.len)
open Go.RowKit Go.Sep Go.ChangeShapes Go.WideShapes Go.ChangeAt
structure WD where
 at_:Int
 v:Value
 b:List UInt8
 short:Bool
def wdv (x:WD):List Value:=[.int .i64 x.at_,x.v, .bool x.short]
def WD.Ok (W:World) (x:WD):Prop:=(-9223372036854775808<=x.at_/\x.at_<=9223372036854775807)/\Rd W x.v x.b.length 1 (bv x.b)
def aqo (l:List WD):Bool:=decide (l.length<=60)&&l.all fun x=>decide (x.b.length<=300)
def apd (W:World) (v:Value) (l:List WD):Prop:=Rd W v l.length 3 (l.flatMap wdv)/\∀x∈l,x.Ok W
/-! ### group -/
def aom (x:WD):List UInt8:=if x.short then x.b else pad x.b
def aqw (l:List WD) (i:Nat):G2:=(l.take i).map fun x=>(x.at_,aom x)
def dS (x:Int×List UInt8):List Value:=[.int .i64 x.1,gM x.2]
theorem vH (g:G2):∀x∈g,(dS x).length=2:=fun _ _=>rfl
theorem DN (l:G2):∀u∈l.flatMap dS,u.oneCell'=true:=fun u hu=>by
 obtain⟨x,V,hu⟩:=mE.1 hu;simp only[dS,gM,oK,nE,or_false] at hu
 rcases hu with rfl|rfl<;>rfl
def apH (l:List WD):Nat:=min l.length 30
theorem ajH (d:List UInt8) (w:World):(Builtin.len_ #[9] 3 #[gM d]).run Tryz.prog w= .ok (.int .i64 (d.length:Int)) w:=by
 first|rfl|kernel_rfl|(simp[Builtin.len_,gM];done)
/-! ### the apx Check -/
theorem akv {n:Int} {a:Int} {d:List UInt8} (h:okW n (a,d)=false):((d.length:Int) != 128)=true∨(((d.length:Int) != 128)=false/\decide (a<0)=true)∨(((d.length:Int) != 128)=false/\decide (a<0)=false/\decide (n<=a)=true)∨
  (((d.length:Int) != 128)=false/\decide (a<0)=false/\decide (n<=a)=false/\decide (2<=a)=true/\decide (a<26)=true):=by
 unfold okW at h;simp only[Bool.and_eq_false_iff,decide_eq_false_iff_not,Bool.not_eq_false',ed,decide_eq_true_eq,bne_iff_ne,bne_eq_false_iff_eq] at h ⊢;omega
theorem abA (O:Sat W w L) (g:G2) (ao:Option Addr) (c:Nat) (hr:∀w,Sat W w L->Rd w (.slice ao g.length c) g.length 2 (g.flatMap dS)) (hb:g.length<=1000000) (n:Int):
  Calls Tryz.prog 113 #[.slice ao g.length c, .int .i64 n] w fun e w'=>e= .returned (.bool (gT n g))/\Sat W w' L:=by
 have HR:=Z hr;obtain⟨_,_,he,hc1,hc2,_,h5⟩:=hr w O;obtain⟨rfl,rfl⟩:=gq he;have H5:=Z h5;clear hr h5
 by_cases I:g.length<1
 ·have i1:(g.length:Int)<1:=by omega
  have HO:=Z (show gT n g=false by unfold gT;rw[bf (by omega:¬1<=g.length)];rfl);clear I;rw[HO.F];go_enter Tryz.func113,Tryz.ntmps113;go_wp2;go_ret;exact⟨rfl,O⟩
 by_cases H:20<g.length
 ·have i1:¬(g.length:Int)<1:=by omega
  have i2:(20:Int)< (g.length:Int):=by omega
  have HO:=Z (show gT n g=false by unfold gT;rw[bf (by omega:¬g.length<=20)];simp);clear I H;rw[HO.F];go_enter Tryz.func113,Tryz.ntmps113;go_wp2;go_ret;exact⟨rfl,O⟩
 have i1:¬(g.length:Int)<1:=by omega
 have i2:¬(20:Int)< (g.length:Int):=by omega
 have HO:=Z (Tn (n:=n) (g:=g) (by omega) (by omega));clear I H;go_enter Tryz.func113,Tryz.ntmps113;go_wp2;have H0:=Z O;go_loopw [5] (fun v wz=>∃k:Nat,v= .int .i64 k/\k<=g.length/\wC n g k=true/\Sat W wz L) (fun v _=>g.length-(intOf v).toNat)
 case atStart=>exact⟨0,rfl,by omega,rfl,H0.F⟩
 case round=>
  clear O H0;obtain⟨k,rfl,hk,hp,O⟩:=hrel
  by_cases hl:k<g.length
  ·have k1:(k:Int)< (g.length:Int):=by omega
   obtain⟨b,off,rfl,_⟩:=H5.F (by omega);obtain⟨⟨xa,xd⟩,V⟩:∃x,g[k]? =some x:=⟨_,aR hl⟩
   have HX:=Z V;have HL:=Z hl;have HP:=Z hp;have HST:=Z (N8 n g k);have dx:=Z (aaT (n:=n) (g:=g) (i:=k) hl);have HAT:=Z (Tm (n:=n) V);have hlen:=ajH xd;clear V hl hp
   cases hw:okW n (xa,xd)
   ·have HF:=Z (dx.F (by rw[HAT.F,hw];rfl))
    rcases akv hw with q1|⟨q0,q1⟩|⟨q0,q1,q2⟩|⟨q0,q1,q2,q3,q4⟩
    all_goals
     clear hw
     go_wp2_with (first
      |(refine bN (fE (HR.F _ O) (vH g) _ _ (by rfl) _ (by rfl) (aI (by rfl)) k 0 (by omega) HX.F (by rfl) (by omega)) ?_)
      |(refine bN (fE (HR.F _ O) (vH g) _ _ (by rfl) _ (by rfl) (aI (by rfl)) k 1 (by omega) HX.F (by rfl) (by omega)) ?_))
     go_ret;rw[HF.F];exact⟨rfl,O⟩
   ·obtain⟨q1,q2,q3,q4⟩:=aaX hw;have HOW:=Z hw;clear hw
    rcases q3 with q3|⟨q3,q5⟩
    all_goals
     go_wp2_with (first
      |(refine bN (fE (HR.F _ O) (vH g) _ _ (by rfl) _ (by rfl) (aI (by rfl)) k 0 (by omega) HX.F (by rfl) (by omega)) ?_)
      |(refine bN (fE (HR.F _ O) (vH g) _ _ (by rfl) _ (by rfl) (aI (by rfl)) k 1 (by omega) HX.F (by rfl) (by omega)) ?_))
     have H1:=Z O;go_loopw [7] (fun v wz=>∃j:Nat,v= .int .i64 j/\j<=k/\twice g j xa=false/\Sat W wz L) (fun v _=>k-(intOf v).toNat)
     case atStart=>exact⟨0,rfl,by omega,by simp[twice],H1.F⟩
     case round=>
      clear O H1;obtain⟨j,rfl,hj,ht,O⟩:=hrel
      by_cases hjl:j<k
      ·have j1:(j:Int)< (k:Int):=by omega
       have j2:(j:Int)< (g.length:Int):=by omega
       obtain⟨⟨ya,yd⟩,hy⟩:∃x,g[j]? =some x:=⟨_,aR (by omega)⟩
       have HY:=Z hy;have hts:=an8 hy xa;rw[ht,Bool.false_or] at hts;have zV:=Z hts;have tX:=Z hjl;clear hy ht hts hjl
       cases hq:(ya==xa)
       ·have HQ:=Z hq
        go_wp2_with (first
         |(refine bN (fE (HR.F _ O) (vH g) _ _ (by rfl) _ (by rfl) (aI (by rfl)) j 0 (by omega) HY.F (by rfl) (by omega)) ?_))
        exact⟨⟨j+1,by go_num,tX.F,by rw[zV.F];exact HQ.F,O⟩,by simp[intOf];have:=tX.F;omega⟩
       ·have HF:=Z (dx.F (by
         rw[HAT.F,HOW.F,Bool.true_and];have I:twice g (j+1) xa=true:=by rw[zV.F];exact hq
         have H:twice g k xa=true:=by
          unfold twice at I ⊢;obtain⟨z,hz,hz2⟩:=List.any_eq_true.1 I;exact List.any_eq_true.2 ⟨z,(List.take_subset_take_left g (show j+1<=k from tX.F)) hz,hz2⟩
         show(!twice g k xa)=false
         rw[H];rfl))
        go_wp2_with (first
         |(refine bN (fE (HR.F _ O) (vH g) _ _ (by rfl) _ (by rfl) (aI (by rfl)) j 0 (by omega) HY.F (by rfl) (by omega)) ?_))
        go_ret;rw[HF.F];exact⟨rfl,O⟩
      ·have j1:¬(j:Int)< (k:Int):=by omega
       obtain rfl:j=k:=by omega
       have HQ:=Z (show wC n g (j+1)=true by rw[HST.F,HP.F,HAT.F,HOW.F];show(true&&(true&& !twice g j xa))=true;rw[ht];rfl);clear hjl ht;go_wp2;exact⟨⟨j+1,by go_num,HL.F,HQ.F,O⟩,by simp[intOf];have:=HL.F;omega⟩
  ·have k1:¬(k:Int)< (g.length:Int):=by omega
   have HF:=Z (show gT n g=true by rw[HO.F,show g.length=k by omega];exact hp);clear hl hp;go_wp2;go_ret;rw[HF.F];exact⟨rfl,O⟩
structure apc (D:aG):Prop where
 inv:Inv D
 dead:D.dead=false
 left:D.left= -1
 len:D.blocks.length=160
 zero:D.blocks[2]? =some (zeros 128)
def apw:aG:= {blocks:=List.replicate 160 (zeros 128),base:=[],writes:=[],left:= -1,dead:=false}
/-! ### all blocks but the ap5 -/
def aqg (B:List (List UInt8)) (i:Nat):List UInt8:=(List.range i).flatMap fun i=>if decide (i<2) || decide (26<=i) then B[i]?.getD [] else []
theorem Mr (a b:List UInt8) (w:World) (h:a.length+b.length<=8000000):(binOp .add 9 (gM a) (.string ⟨b.toArray⟩)).run Tryz.prog w= .ok (gM (a++b)) w:=by
 exact run_string_add_lists w a b (by omega) (by omega)
theorem X8 (a b:List UInt8) (w:World):(binOp .eql 9 (gM a) (gM b)).run Tryz.prog w= .ok (.bool (a==b)) w:=by simp[binOp,Op.stringOp,gM]
theorem X9 (a b:List UInt8) (x y:Operand) (w:World):(eqGuard .eql 9 x y (gM a) (gM b)).run Tryz.prog w= .ok () w:=by simp[eqGuard,gM]
theorem aay (a b:List UInt8) (w:World):(binOp .neq 9 (gM a) (gM b)).run Tryz.prog w= .ok (.bool (!(a==b))) w:=by simp[binOp,Op.stringOp,gM]
theorem aP.WI {p:Nat} {D:aG} (h:Sat W w (aP p D::L)):∀b∈D.blocks,b.length=128:=fun b hb=>by
 obtain⟨u1,u2,u3,hq⟩:=aP.open h
 simpa [jR] using hq.DI (k:=1) rfl b hb
attribute [local irreducible] Sep.fJ
def mr:aG->dh->G2->dh
 |_,R,[]=>R
 |D,R,x::l=>if gp D x.1 x.2.length=0 then mr (fG D x.1 x.2) (rH D R x.1 x.2) l else rH D R x.1 x.2
theorem Rel.run (l:G2):∀ {D:aG} {R:dh},Rel D R->Rel (bH D l).2 (mr D R l):=by
 induction l with
 |nil=>exact fun h=>h
 |cons x l ih=>
  intro D R h;show Rel (if gp D x.1 x.2.length=0 then bH (fG D x.1 x.2) l else(gp D x.1 x.2.length,fG D x.1 x.2)).2 (if gp D x.1 x.2.length=0 then mr (fG D x.1 x.2) (rH D R x.1 x.2) l else rH D R x.1 x.2)
  by_cases h0:gp D x.1 x.2.length=0
  ·rw[if_pos h0,if_pos h0];exact ih (h.next _ _)
  ·rw[if_neg h0,if_neg h0];exact h.next _ _
theorem KP (l m:G2):∀(D:aG) (R:dh),mr D R (l++m)=if(bH D l).1=0 then mr (bH D l).2 (mr D R l) m else mr D R l:=by
 induction l with
 |nil=>intro D R;rfl
 |cons x l ih=>
  intro D R;show(if gp D x.1 x.2.length=0 then mr (fG D x.1 x.2) (rH D R x.1 x.2) (l++m) else _)=_
  by_cases h:gp D x.1 x.2.length=0
  ·have e:bH D (x::l)=bH (fG D x.1 x.2) l:=by show(if _ then _ else _)=_;rw[if_pos h]
   have e2:mr D R (x::l)=mr (fG D x.1 x.2) (rH D R x.1 x.2) l:=by show(if _ then _ else _)=_;rw[if_pos h]
   rw[if_pos h,e,e2];exact ih _ _
  ·have e:bH D (x::l)=(gp D x.1 x.2.length,fG D x.1 x.2):=by show(if _ then _ else _)=_;rw[if_neg h]
   have e2:mr D R (x::l)=rH D R x.1 x.2:=by show(if _ then _ else _)=_;rw[if_neg h]
   rw[if_neg h,e,e2,if_neg h]
theorem amG (D:aG) (R:dh) (x:Int×List UInt8):mr D R [x]=rH D R x.1 x.2:=by
 show(if gp D x.1 x.2.length=0 then mr (fG D x.1 x.2) (rH D R x.1 x.2) [] else _)=_
 split<;>rfl
theorem OM {D D':aG} {R:dh} {l:G2} {i:Nat} {x:Int×List UInt8} (h:bH D (l.take i)=(0,D')) (V:l[i]? =some x):mr D R (l.take (i+1))=rH D' (mr D R (l.take i)) x.1 x.2:=by
 rw[ik,V,KP,h,if_pos rfl];exact amG D' _ x
theorem abW {D:aG} {R:dh} {l:G2} {i:Nat} (h:(bH D (l.take i)).1≠0):mr D R l=mr D R (l.take i):=by
 conv=>lhs;rw[<-rR i l]
 rw[KP,if_neg h]
theorem Iw {p k:Nat} {D:aG} {R:dh} (O:Sat W w (aW p R::L)) (hR:Rel D R) (hG:DG D k) (hk:k<=100000) (n:Int) (v:Value) (b:List UInt8) {m:Nat} (hm:b.length=m) (hb:∀w,Sat W w L->Rd w v m 1 (bv b)):
  Calls Tryz.prog 35 #[.pointer (some ⟨p,0,none⟩), .int .i64 n,v] w fun e w'=>e= .returned (.int .i64 (gp D n b.length))/\Sat W w' (aW p (rH D R n b)::L):=by
 subst hm;obtain⟨ao,c,rfl,_⟩:=hb w O.drop;exact alY O hR n ao c b hb (by have:=hG.wr;omega)
/-! ### Header -/
theorem abJ (O:Sat W w L) (g:G2) (ao:Option Addr) (c:Nat) (hr:∀w,Sat W w L->Rd w (.slice ao g.length c) g.length 2 (g.flatMap dS)) (hb:g.length<=20) (ha:∀x∈g, -9223372036854775808<=x.1/\x.1<=9223372036854775807) (xx:∀x∈g,x.2.length<=1000000):
  Calls Tryz.prog 114 #[.slice ao g.length c] w fun e w'=>∃v,e= .returned v/\Sat W w' (Sl 5 1 v 128 (bv (hdr g))::L):=by
 have HR:=Z hr;have HA:=Z ha;have y7:=Z xx;obtain⟨_,_,he,hc1,hc2,_,h5⟩:=hr w O;obtain⟨rfl,rfl⟩:=gq he;have H5:=Z h5;clear hr h5 ha xx;have n1:(g.length:Int)<=20:=by omega
 have xS:=Z (Sc (g:=g) hb);have PG:=Z (Sb (g:=g) hb);have HZ:=Z (Y5 g);go_enter Tryz.func114,Tryz.ntmps114
 go_wp2_with (first
  |(go_at_call 78;refine(qD O (g.length:Nat) (by omega) (by omega) 1 (by omega)).mono ?_;clear O;rintro e J ⟨v1,rfl,O⟩))
 have H0:Hid (Sat W _ (Sl 5 1 v1 (hd0 g 0).length (bv (hd0 g 0))::L)):=Z (by rw[HZ.F];exact O);go_loopw [3,4] (fun v3 v4 wz=>∃k:Nat,v4= .int .i64 k/\k<=g.length/\Sat W wz (Sl 5 1 v3 (hd0 g k).length (bv (hd0 g k))::L)) (fun _ v4 _=>g.length-(intOf v4).toNat)
 case atStart=>exact⟨0,rfl,by omega,H0.F⟩
 case round=>
  clear O H0;obtain⟨k,rfl,hk,O⟩:=hrel
  by_cases hl:k<g.length
  ·have k1:(k:Int)< (g.length:Int):=by omega
   obtain⟨b,off,rfl,_⟩:=H5.F (by omega);obtain⟨⟨xa,xd⟩,V⟩:∃x,g[k]? =some x:=⟨_,aR hl⟩
   obtain⟨r1,r2⟩:=HA.F _ (bJ V);dsimp only at r1 r2;have HX:=Z V;have HL:=Z hl;have iD:=Z (show hd0 g k++le xa 2=hd0 g (k+1) from Y4 V);have aM:=Z (Y3 g k);clear V hl
   go_wp2_with (first
    |(refine bN (fE (HR.F _ O.drop) (vH g) _ _ (by rfl) _ (by rfl) (aI (by rfl)) k 0 (by omega) HX.F (by rfl) (by omega)) ?_)
    |(go_at_call 78;refine(qD O xa (by omega) (by omega) 2 (by omega)).mono ?_;clear O;rintro e J ⟨v2,rfl,O⟩)
    |(refine aU ?_;(refine Ac O _ _ _ _ (by rfl) (by rfl) (by rfl) (bS (by rfl)) (by rfl) (by rfl) (by rfl) (dO (by rfl)) hz1 aa (by have:=aM.F;simp only[fK];omega) ?_;clear O;intro v1 J O;dsimp only[aD,aN] at O);rw[iD.F] at O))
   exact⟨⟨k+1,by go_num,HL.F,O.drop⟩,by simp[intOf];have:=HL.F;omega⟩
  ·have k1:¬(k:Int)< (g.length:Int):=by omega
   obtain rfl:k=g.length:=by omega
   have nH:=Z (Y2 g);rw[nH.F] at O;have aM:=Z (show(Am g).length<=60 by rw[Sa];omega);have nJ:=Z (Zo g);clear hl
   go_wp2_with (first
    |(go_at_call 80;refine(KJ O 60 aM.F (by omega)).mono ?_;clear O;rintro e J ⟨v3,rfl,O⟩;replace O:Sat W _ (Sl 5 1 v3 (qO g).length (bv (qO g))::L):=(by rw[xS.F];exact O))
    |(go_at_call 135;refine ak (amy (qO g) _ _ (O.dY aa)) ?_;rintro J rfl))
   have H1:=Z O;go_loopw [5,6] (fun v5 v6 wz=>∃k:Nat,v6= .int .i64 k/\k<=g.length/\v5= .int .u32 (hsum g k:Nat)/\Sat W wz (Sl 5 1 v3 (qO g).length (bv (qO g))::L)) (fun _ v6 _=>g.length-(intOf v6).toNat)
   case atStart=>exact⟨0,rfl,by omega,by rw[nJ.F],H1.F⟩
   case round=>
    clear O H1;obtain⟨k,rfl,hk,rfl,O⟩:=hrel
    by_cases hl:k<g.length
    ·have k1:(k:Int)< (g.length:Int):=by omega
     obtain⟨b,off,rfl,_⟩:=H5.F (by omega);obtain⟨⟨xa,xd⟩,V⟩:∃x,g[k]? =some x:=⟨_,aR hl⟩
     have xx:=y7.F _ (bJ V);dsimp only at xx;have HX:=Z V;have HL:=Z hl;have mW:=Z xx;have ay:=Z (Zm g k);have iD:=Z (show hsum g (k+1)=qI (hsum g k) xd from Zn (x:=(xa,xd)) V);obtain⟨s,hs⟩:=au (hsum g k);rw[hs] at ay iD ⊢;clear V hl hs xx
     go_wp2_with (first
      |(refine bN (fE (HR.F _ O.drop) (vH g) _ _ (by rfl) _ (by rfl) (aI (by rfl)) k 1 (by omega) HX.F (by rfl) (by omega)) ?_)
      |(refine aU ?_;refine yw O _ _ _ (by rfl) xd (by rfl) yo (by have:=mW.F;omega) ?_;clear O;intro q cq J O)
      |(go_at_call 136;refine ak (abN s ay.F xd _ _ (O.dY aa)) ?_;rintro J rfl))
     exact⟨⟨k+1,by go_num,HL.F,by rw[iD.F],O.drop⟩,by simp[intOf];have:=HL.F;omega⟩
    ·have k1:¬(k:Int)< (g.length:Int):=by omega
     have QB:=Z (show hsum g k=BK g by rw[<-Zl,show k=g.length by omega]);rw[QB.F];have hlt:=Y7 g;obtain⟨s,hs⟩:=au (BK g);have Qd:=Z (show qO g++le (s:Int) 4=BJ g by rw[<-hs];rfl);rw[hs] at hlt ⊢;have s1:(s:Int)<4294967296:=by omega
     have Qe:=Z (show(BJ g).length<=128 by rw[PG.F];omega);have PM:=Z (show(qO g).length<=1000000 by rw[xS.F];omega);clear hl hs hlt
     go_wp2_with (first
      |(go_at_call 78;refine(qD O (s:Int) (by omega) (by omega) 4 (by omega)).mono ?_;clear O;rintro e J ⟨v4,rfl,O⟩)
      |(refine aU ?_;(refine Ac O _ _ _ _ (by rfl) (by rfl) (by rfl) (bS (by rfl)) (by rfl) (by rfl) (by rfl) (dO (by rfl)) hz1 aa (by have:=PM.F;simp only[fK];omega) ?_;clear O;intro v1 J O;dsimp only[aD,aN] at O);rw[Qd.F] at O;replace O:=O.drop)
      |(go_at_call 80;refine(KJ O 128 Qe.F (by omega)).mono ?_;clear O;rintro e J ⟨v5,rfl,O⟩))
     go_ret;exact⟨_,rfl,O⟩
/-! ### home -/
theorem ahc {g:G2} {i:Nat} {x:Int×List UInt8} (h:g[i]? =some x):(fC g)[i]? =some x:=by
 unfold fC;rw[xN (bZ.1 h).1,h]
theorem ahd (g:G2):(fC g)[g.length]? =some (2,zeros 128):=by
 unfold fC;rw[rP (aZ _),Nat.sub_self];rfl
theorem abK {p k:Nat} {D:aG} {R:dh} (O:Sat W w (aW p R::L)) (hR:Rel D R) (hG:DG D k) (hk:k<=99000) (g:G2) (ao:Option Addr) (c:Nat) (hr:∀w,Sat W w L->Rd w (.slice ao g.length c) g.length 2 (g.flatMap dS)) (hb:g.length<=20) (xx:∀x∈g,x.2.length<=1000000):
  Calls Tryz.prog 115 #[.pointer (some ⟨p,0,none⟩), .slice ao g.length c] w fun e w'=>e= .returned (.int .i64 (bH D (fC g)).1)/\Sat W w' (aW p (mr D R (fC g))::L):=by
 have HR:=Z hr;have gB:=Z hR;have y7:=Z xx;obtain⟨_,_,he,hc1,hc2,_,h5⟩:=hr w O.drop;obtain⟨rfl,rfl⟩:=gq he;have H5:=Z h5;have HG:=Z hG;clear hr h5 hG hR xx;obtain⟨l,hl⟩:=au (fC g);have HL:=Z hl;have jO:=Z (show l.length=g.length+1 by rw[<-hl];simp[fC]);rw[hl];clear hl;go_enter Tryz.func115,Tryz.ntmps115;go_wp2;have H0:=Z O;go_loopw [5] (fun v wz=>∃(i:Nat) (D':aG) (R':dh),v= .int .i64 i/\i<=g.length/\bH D (l.take i)=(0,D')/\mr D R (l.take i)=R'/\Sat W wz (aW p R'::L)) (fun v _=>g.length-(intOf v).toNat)
 case atStart=>exact⟨0,D,R,rfl,by omega,rfl,rfl,H0.F⟩
 case round=>
  clear O H0;obtain⟨i,D',R',rfl,hi,hrun,xy,O⟩:=hrel;have jP:=Z hrun;have rX:=Z (show Rel D' R' by have:=gB.F.run (l.take i);rw[hrun,xy] at this;exact this);have wY:=Z xy;clear hrun xy
  by_cases hlt:i<g.length
  ·obtain⟨b,off,rfl,_⟩:=H5.F (by omega);obtain⟨⟨xa,xd⟩,V⟩:∃x,g[i]? =some x:=⟨_,aR hlt⟩
   have xx:=y7.F _ (bJ V);dsimp only at xx;have mW:=Z xx;have HX:=Z V;have ay:=Z hlt;have i1:(i:Int)< (g.length:Int):=by omega
   have hlx:l[i]? =some (xa,xd):=by rw[<-HL.F];exact ahc V
   have HN:=Z (Dz jP.F hlx);have kC:=Z (OM (R:=R) jP.F hlx);rw[wY.F] at kC;have gW:=Z (fun(qc:Nat×Nat) w (h:Sat W w (aW p R'::Sl 5 1 (.slice (some ⟨qc.1,0,none⟩) xd.length qc.2) xd.length (bv xd)::L))=>Iw h rX.F (HG.F.step jP.F) (by omega) xa (.slice (some ⟨qc.1,0,none⟩) xd.length qc.2) xd rfl (fun w h=>h.dY aa));dsimp only at HN kC;obtain⟨z,hz⟩:=au (gp D' xa xd.length);rw[hz] at HN gW;clear V hlt hz xx hlx
   by_cases h0:z=0
   ·subst h0;go_wp2
    (refine cB (pO [0,1,2,3,4]<|rO [5]<|pO [6,7,8,9]<|rO [10]<|aO [11,12]<|pO [13]<| .e) [12] O ?_;clear O;intro J O)
    repeat (first
     |(refine bG O ?_;go_frame)
     |(refine bR O ?_;(first
         |refine⟨_,DR (fun u h=>HR.F u h.drop) (vH g) _ _ (by rfl) _ (by rfl) (aI (by rfl)) i 0 (by omega) HX.F (by rfl) (by omega),?_⟩
         |refine⟨_,DR (fun u h=>HR.F u h.drop) (vH g) _ _ (by rfl) _ (by rfl) (aI (by rfl)) i 1 (by omega) HX.F (by rfl) (by omega),?_⟩);go_frame)
     |(refine bY fun K hK=>?_;(first
         |(refine yw O _ _ _ (by rfl) xd (by rfl) yo (by have:=mW.F;omega) ?_;clear O;intro q cq J O)
         |(refine jy (gW.F (q,cq) _ O.bW) ?_;clear O;intro J O));refine hK.go O ?_;clear hK K;go_frame))
    refine bO ?_;go_wp2;exact⟨⟨i+1,_,_,by go_num,ay.F,HN.F,kC.F,O.bW.drop⟩,by simp[intOf];have:=ay.F;omega⟩
   ·have e0:(z != 0)=true:=bne_iff_ne.2 h0;have HST:=Z (OO (D:=D) (l:=l) (i:=i+1) (by rw[HN.F];exact h0));have Ee:=Z (abW (D:=D) (R:=R) (l:=l) (i:=i+1) (by rw[HN.F];exact h0));clear h0;go_wp2
    (refine cB (pO [0,1,2,3,4]<|rO [5]<|pO [6,7,8,9]<|rO [10]<|aO [11,12]<|pO [13]<| .e) [12] O ?_;clear O;intro J O)
    repeat (first
     |(refine bG O ?_;go_frame)
     |(refine bR O ?_;(first
         |refine⟨_,DR (fun u h=>HR.F u h.drop) (vH g) _ _ (by rfl) _ (by rfl) (aI (by rfl)) i 0 (by omega) HX.F (by rfl) (by omega),?_⟩
         |refine⟨_,DR (fun u h=>HR.F u h.drop) (vH g) _ _ (by rfl) _ (by rfl) (aI (by rfl)) i 1 (by omega) HX.F (by rfl) (by omega),?_⟩);go_frame)
     |(refine bY fun K hK=>?_;(first
         |(refine yw O _ _ _ (by rfl) xd (by rfl) yo (by have:=mW.F;omega) ?_;clear O;intro q cq J O)
         |(refine jy (gW.F (q,cq) _ O.bW) ?_;clear O;intro J O));refine hK.go O ?_;clear hK K;go_frame))
    refine bO ?_;go_wp2;go_ret;rw[HST.F,Ee.F,HN.F,kC.F];exact⟨rfl,O.bW.drop⟩
  ·have i1:¬(i:Int)< (g.length:Int):=by omega
   obtain rfl:i=g.length:=by omega
   have hlx:l[g.length]? =some (2,zeros 128):=by rw[<-HL.F];exact ahd g
   have HN:=Z (Dz jP.F hlx);have kC:=Z (OM (R:=R) jP.F hlx);have hT:l.take (g.length+1)=l:=dF (by rw[jO.F];exact aZ _);rw[hT] at HN kC;rw[wY.F] at kC;have gW:=Z (fun(pb:Nat) w (h:Sat W w (aW p R'::Cs pb 5 (bv (zeros 128))::L))=>Iw h rX.F (HG.F.step jP.F) (by omega) 2 (.slice (some ⟨pb,0,none⟩) 128 128) (zeros 128) (m:=128) (by simp[zeros]) (fun w h=>h.jc (n:=128) (sz:=1) aa (by decide) (by simp[jR,zeros])));clear hlt hT hlx
   go_wp2_with (first
    |(refine aU ?_;refine mk O _ _ _ (by rfl) 128 128 _ _ (by rfl) (by rfl) (bS (by rfl)) (by omega) (by omega) (by omega) ?_;clear O;intro pb J O;rw[zA] at O)
    |(go_at_call 35;refine ak (gW.F _ _ O.bW) ?_;clear O;intro J O))
   go_ret;rw[HN.F,kC.F];exact⟨rfl,O.bW.drop⟩
theorem akt {n:Int} (hn:n<=1024) {g:G2} (h:gT n g=true):∀x∈g, -9223372036854775808<=x.1/\x.1<=9223372036854775807:=fun x V=>by
 obtain⟨i,hi⟩:=List.mem_iff_getElem?.1 V;have:=Du (Aw h hi).1;omega
theorem akp {n:Int} {g:G2} (h:gT n g=true):∀x∈g,x.2.length<=1000000:=fun x V=>by
 obtain⟨i,hi⟩:=List.mem_iff_getElem?.1 V;have:=Oa (Aw h hi).1;omega
theorem TM {p k:Nat} {D:aG} {R:dh} (O:Sat W w (aW p R::L)) (hR:Rel D R) (hG:DG D k) (hk:k<=90000) (g:G2) (ao:Option Addr) (c:Nat) (hr:∀w,Sat W w L->Rd w (.slice ao g.length c) g.length 2 (g.flatMap dS)) (hb:g.length<=1000000):
  Calls Tryz.prog 90 #[.pointer (some ⟨p,0,none⟩), .slice ao g.length c] w fun e w'=>e= .returned (.int .i64 (jm D g).1)/\Sat W w' (aW p (if gT D.blocks.length g then mr D R (jA g) else R)::L):=by
 have HR:=Z hr;have gB:=Z hR;obtain⟨_,_,he,hc1,hc2,_,h5⟩:=hr w O.drop;obtain⟨rfl,rfl⟩:=gq he;have H5:=Z h5;have HG:=Z hG;have hlen:R.L.length=D.blocks.length:=by rw[hR.blocks]
 obtain⟨v1,v2,O⟩:=aW.open O
 obtain⟨al,cl,rfl,_⟩:=O.fA (k:=1) rfl;have jv:=Z (fun w (h:Sat W w (Cs p 68 [.slice al R.L.length cl,v2, .bool R.armed, .int .i64 R.left, .bool R.dead]::Tb 9 1 iF (.slice al R.L.length cl) R.L::Tb 150 2 wv v2 R.Log::L))=>abA h g ao c (fun w h=>HR.F w h.drop.drop.drop) hb (R.L.length:Nat));rw[hlen] at jv;have h1024:=hG.ok.len;clear hr h5 hG hR
 cases hok:gT D.blocks.length g
 ·have HC:=Z (show jm D g=(1,D) by unfold jm;rw[hok];rfl);rw[HC.F,if_neg (by decide)];rw[hok] at jv;clear hok;rw[<-hlen] at jv;clear hlen h1024;go_enter Tryz.func90,Tryz.ntmps90
  go_wp2_with (first
   |(refine bB O ?_ (hk:=aa))
   |(go_at_call 113;refine ak (jv.F _ O) ?_;clear O;intro J O;replace O:=aW.mk O))
  go_ret;exact⟨rfl,O⟩
 ·have HC:=Z (show jm D g=bH D (jA g) by unfold jm;rw[hok];rfl);have HLEN:=Z (Fp hok);have h20:g.length<=20:=HLEN.F.2;have y7:=Z (akp hok);have Mc:=Z (akt (by omega) hok);rw[HC.F,if_pos rfl];rw[hok] at jv;clear hok;obtain⟨l,hl⟩:=au (kF g++[(2,hdr g)]);have HL:=Z hl;have jO:=Z (show l.length=g.length+1 by rw[<-hl];simp[wm]);have HE:=Z (show jA g=l++fC g by rw[Xk,hl]);rw[HE.F];rw[<-hlen] at jv;clear hl hlen h1024;go_enter Tryz.func90,Tryz.ntmps90
  go_wp2_with (first
   |(refine bB O ?_ (hk:=aa))
   |(go_at_call 113;refine ak (jv.F _ O) ?_;clear O;intro J O;replace O:=aW.mk O))
  have H0:=Z O;go_loopw [5] (fun v wz=>∃(i:Nat) (D':aG) (R':dh),v= .int .i64 i/\i<=g.length/\bH D (l.take i)=(0,D')/\mr D R (l.take i)=R'/\Sat W wz (aW p R'::L)) (fun v _=>g.length-(intOf v).toNat)
  case atStart=>exact⟨0,D,R,rfl,by omega,rfl,rfl,H0.F⟩
  case round=>
   clear O H0;obtain⟨i,D',R',rfl,hi,hrun,xy,O⟩:=hrel;have jP:=Z hrun;have rX:=Z (show Rel D' R' by have:=gB.F.run (l.take i);rw[hrun,xy] at this;exact this);have wY:=Z xy;clear hrun xy
   by_cases hlt:i<g.length
   ·obtain⟨b,off,rfl,_⟩:=H5.F (by omega);obtain⟨⟨xa,xd⟩,V⟩:∃x,g[i]? =some x:=⟨_,aR hlt⟩
    have mW:=Z (show xd.length<=1000000 from y7.F _ (bJ V));have HX:=Z V;have ay:=Z hlt;have i1:(i:Int)< (g.length:Int):=by omega
    have i2:(i:Int)<20:=by omega
    have hlx:l[i]? =some (((3+i:Nat):Int),xd):=by rw[<-HL.F];exact Xm (x:=(xa,xd)) V
    have HN:=Z (Dz jP.F hlx);have kC:=Z (OM (R:=R) jP.F hlx);rw[wY.F] at kC
    have gW:=Z (fun(qc:Nat×Nat) w (h:Sat W w (aW p R'::Sl 5 1 (.slice (some ⟨qc.1,0,none⟩) xd.length qc.2) xd.length (bv xd)::L))=>(show Calls Tryz.prog 35 #[.pointer (some ⟨p,0,none⟩), .int .i64 (3+(i:Int)), .slice (some ⟨qc.1,0,none⟩) xd.length qc.2] w fun e w'=>e= .returned (.int .i64 (gp D' ((3+i:Nat):Int) xd.length))/\Sat W w' (aW p (rH D' R' ((3+i:Nat):Int) xd)::Sl 5 1 (.slice (some ⟨qc.1,0,none⟩) xd.length qc.2) xd.length (bv xd)::L) by
     have:=Iw h rX.F (HG.F.step jP.F) (by omega) ((3+i:Nat):Int) (.slice (some ⟨qc.1,0,none⟩) xd.length qc.2) xd rfl (fun w h=>h.dY aa);rw[show(((3+i:Nat):Int))=3+(i:Int) by omega] at this ⊢
     exact this))
    dsimp only at HN kC;obtain⟨z,hz⟩:=au (gp D' ((3+i:Nat):Int) xd.length);rw[hz] at HN gW;clear V hlt hz hlx
    by_cases h0:z=0
    ·subst h0
     go_wp2_with (first
      |(refine bN (fE (HR.F _ O.drop) (vH g) _ _ (by rfl) _ (by rfl) (aI (by rfl)) i 1 (by omega) HX.F (by rfl) (by omega)) ?_)
      |(refine aU ?_;refine yw O _ _ _ (by rfl) xd (by rfl) yo (by have:=mW.F;omega) ?_;clear O;intro q cq J O)
      |(go_at_call 35;refine ak (gW.F (q,cq) _ O.bW) ?_;clear O;intro J O))
     exact⟨⟨i+1,_,_,by go_num,ay.F,HN.F,kC.F,O.bW.drop⟩,by simp[intOf];have:=ay.F;omega⟩
    ·have e0:(z != 0)=true:=bne_iff_ne.2 h0;have hst:=OO (D:=D) (l:=l) (i:=i+1) (by rw[HN.F];exact h0);have HST:=Z (show bH D (l++fC g)=(z,fG D' ((3+i:Nat):Int) xd) by rw[wG,hst,HN.F,if_neg h0]);have Ee:=Z (show mr D R (l++fC g)=rH D' R' ((3+i:Nat):Int) xd by rw[KP,hst,HN.F,if_neg h0,abW (i:=i+1) (by rw[HN.F];exact h0),kC.F]);clear h0 hst
     go_wp2_with (first
      |(refine bN (fE (HR.F _ O.drop) (vH g) _ _ (by rfl) _ (by rfl) (aI (by rfl)) i 1 (by omega) HX.F (by rfl) (by omega)) ?_)
      |(refine aU ?_;refine yw O _ _ _ (by rfl) xd (by rfl) yo (by have:=mW.F;omega) ?_;clear O;intro q cq J O)
      |(go_at_call 35;refine ak (gW.F (q,cq) _ O.bW) ?_;clear O;intro J O))
     go_ret;rw[HST.F,Ee.F];exact⟨rfl,O.bW.drop⟩
   ·obtain rfl:i=g.length:=by omega
    have hlx:l[g.length]? =some (2,hdr g):=by rw[<-HL.F];exact Xl g
    have HN:=Z (Dz jP.F hlx);have kC:=Z (OM (R:=R) jP.F hlx);have hT:l.take (g.length+1)=l:=dF (by rw[jO.F];exact aZ _);rw[hT] at HN kC;rw[wY.F] at kC;have BL:(hdr g).length=128:=G9 HLEN.F.2;have xW:=Z (fun w (h:Sat W w (aW p R'::L))=>abJ h g ao c (fun w h=>HR.F w h.drop) h20 Mc.F y7.F);have gW:=Z (fun(v:Value) w (h:Sat W w (aW p R'::Sl 5 1 v 128 (bv (hdr g))::L))=>Iw h rX.F (HG.F.step jP.F) (by omega) 2 v (hdr g) (m:=128) BL (fun w h=>h.dY aa));have Qy:=Z (rX.F.next 2 (hdr g));have HG2:=Z ((HG.F.step jP.F).next 2 (hdr g));obtain⟨q,hq⟩:=au (gp D' 2 (hdr g).length);dsimp only at HN kC;rw[hq] at HN gW;obtain⟨D2,hD2⟩:=au (fG D' 2 (hdr g));obtain⟨R2,hR2⟩:=au (rH D' R' 2 (hdr g));rw[hD2] at HN Qy HG2;rw[hR2] at kC gW Qy;clear hlt hq BL hD2 hR2 hT hlx
    by_cases h0:q=0
    ·subst h0;have tT:=Z (fun(A:aA) w (h:Sat W w (aW p R2::A::L))=>abK h Qy.F HG2.F (by omega) g ao c (fun w h=>HR.F w h.drop) h20 y7.F);have HST:=Z (show bH D (l++fC g)=bH D2 (fC g) by rw[wG,HN.F,if_pos rfl]);have Ee:=Z (show mr D R (l++fC g)=mr D2 R2 (fC g) by rw[KP,HN.F,if_pos rfl,kC.F])
     go_wp2_with (first
      |(go_at_call 114;refine(xW.F _ O).mono ?_;clear O;rintro e J ⟨vh,rfl,O⟩)
      |(go_at_call 35;refine ak (gW.F _ _ O.bW) ?_;clear O;intro J O)
      |(go_at_call 115;refine ak (tT.F _ _ O) ?_;clear O;intro J O))
     go_ret;rw[HST.F,Ee.F];exact⟨rfl,O.bW.drop⟩
    ·have e0:(q != 0)=true:=bne_iff_ne.2 h0;have HST:=Z (show bH D (l++fC g)=(q,D2) by rw[wG,HN.F,if_neg h0]);have Ee:=Z (show mr D R (l++fC g)=R2 by rw[KP,HN.F,if_neg h0,kC.F]);clear h0
     go_wp2_with (first
      |(go_at_call 114;refine(xW.F _ O).mono ?_;clear O;rintro e J ⟨vh,rfl,O⟩)
      |(go_at_call 35;refine ak (gW.F _ _ O.bW) ?_;clear O;intro J O))
     go_ret;rw[HST.F,Ee.F];exact⟨rfl,O.bW.drop⟩
theorem ah6 {b:List UInt8} (h:0<b.length):fV b 0 1=(b[0]).toNat:=by
 unfold fV;rw[if_pos (by omega),kz]
 cases b with
 |nil=>simp at h
 |cons x b=>simp[un]
def FD (D:aG) (R:dh):dh:=if mV D then mr D R (fC (jL D (qx D))) else R
theorem Oz {D:aG} {R:dh} (h:mV D=false):FD D R=R:=by unfold FD;rw[h];rfl
theorem ajO {D:aG} (hD:∀b∈D.blocks,b.length=128) (n:Nat):∀x∈jL D n,x.2.length<=1000000:=fun x V=>by
 obtain⟨i,_,rfl⟩:=rQ.1 V;show(jZ D (3+i)).length<=_;unfold jZ
 cases h:D.blocks[3+i]? with
 |none=>simp
 |some b=>
  have:=hD b (bJ h);show b.length<=_;omega
theorem ajQ (D:aG) (n:Nat):∀x∈jL D n, -9223372036854775808<=x.1/\x.1<=9223372036854775807:=fun x V=>by
 obtain⟨i,_,rfl⟩:=rQ.1 V;have:=Nb (jZ D 2) (1+2*i) 2;show -9223372036854775808<=((fV (jZ D 2) (1+2*i) 2:Nat):Int)/\((fV (jZ D 2) (1+2*i) 2:Nat):Int)<=_;omega
theorem ajv (x:UInt8) (b:List UInt8) (w:World):(Instr.index 9 (gM (x::b)) (.int .i64 0)).run Tryz.prog w= .ok (.int .u8 (x.toNat:Int)) w:=by
 first|rfl|kernel_rfl|(simp[Instr.index,gM];done)
theorem aaz (a b:List UInt8) (w:World):(binOp .neq 9 (.string ⟨a.toArray⟩) (gM b)).run Tryz.prog w= .ok (.bool (!(a==b))) w:=aay a b w
theorem aaB (a b:List UInt8) (x y:Operand) (w:World):(eqGuard .neq 9 x y (.string ⟨a.toArray⟩) (gM b)).run Tryz.prog w= .ok () w:=by simp[eqGuard,gM]
theorem alM {D:aG} {n:Nat} (h:qx D=n) (hn:n<=20):mV D=(gT D.blocks.length (jL D n)&&decide (hdr (jL D n)=jZ D 2)):=by
 unfold mV;rw[h,bL hn];rfl
theorem alN {D:aG} (h:qx D=0):mV D=false:=by unfold mV;rw[h];rfl
theorem TQ {D:aG} {R:dh} {n:Nat} (h:mV D=true) (hl:qx D=n):o6 D=bH D (fC (jL D n))/\yO D=decide ((bH D (fC (jL D n))).1=0)/\FD D R=mr D R (fC (jL D n)):=by
 have e:o6 D=bH D (fC (jL D n)):=by unfold o6;rw[h,if_pos rfl,hl]
 exact⟨e,by unfold yO;rw[h,e];rfl,by unfold FD;rw[h,if_pos rfl,hl]⟩
theorem amC {p k:Nat} {D:aG} {R:dh} (O:Sat W w (aW p R::L)) (hR:Rel D R) (hG:DG D k) (hk:k<=90000) (hn:26<=D.blocks.length) (hD:∀b∈D.blocks,b.length=128):
  Calls Tryz.prog 81 #[.pointer (some ⟨p,0,none⟩)] w fun e w'=>e= .returned (.tuple #[.bool (yO D), .int .i64 (o6 D).1])/\Sat W w' (aW p (FD D R)::L):=by
 have gB:=Z hR;have HG:=Z hG;have HD:=Z hD;have pE:=Z hR.blocks;have HLEN:=Z (show R.L.length=D.blocks.length by rw[hR.blocks]);have h1024:(R.L.length:Int)<=1024:=by have:=hG.ok.len;rw[hR.blocks] at this;omega
 have h26:(26:Int)<=(R.L.length:Int):=by rw[<-hR.blocks];omega
 have HB2:=Z (show R.L[2]? =some (jZ D 2) by rw[<-hR.blocks];exact MB (by omega));obtain⟨v1,v2,O⟩:=aW.open O
 obtain⟨al,cl,rfl,_⟩:=O.fA (k:=1) rfl;obtain⟨ba,oa,cl',hv,_⟩:=O.pX (k:=1) rfl (by omega);simp only[Value.slice.injEq,true_and] at hv;obtain⟨rfl,rfl⟩:=hv;have Ak:(jZ D 2).length=128:=hD _ (bJ (by rw[hR.blocks];exact HB2.F));have hl0:qx D=((jZ D 2)[0]'(by rw[Ak];decide)).toNat:=ah6 (by rw[Ak];decide)
 obtain⟨x,b',hxb⟩:∃x b',jZ D 2=x::b':=by
  cases h:jZ D 2 with
  |nil=>rw[h] at Ak;simp at Ak
  |cons x b'=>exact⟨x,b',rfl⟩
 have hlx:qx D=x.toNat:=by rw[hl0];simp[hxb]
 have hix:=fun w=>ajv x b' w
 rw[<-hxb] at hix;obtain⟨b,hb⟩:=au (jZ D 2);rw[hb] at HB2 Ak hix;have mG:=Z hb;have Bb:=Z Ak;obtain⟨n,hn'⟩:=au x.toNat;have apS:n<256:=by rw[<-hn'];exact UInt8.toNat_lt x
 rw[hn'] at hlx hix;have qG:=Z hlx;clear hR hG hn hD Ak hl0 hxb hlx hn' hb
 by_cases hout:n<1∨20<n
 ·have dx:Hid (mV D=false):=Z (by
   rcases hout with h|h
   ·exact alN (by rw[qG.F];omega)
   ·exact abD qG.F h)
  have l6:=Z (BZ dx.F);have kC:=Z (Oz (R:=R) dx.F)
  have hcs:decide ((n:Int)<1)=true∨(decide ((n:Int)<1)=false/\decide ((20:Int)< (n:Int))=true):=by
   simp only[decide_eq_true_eq,decide_eq_false_iff_not];omega
  clear hout
  rcases hcs with e1|⟨e1,e2⟩
  all_goals
   go_enter Tryz.func81,Tryz.ntmps81
   go_wp2_with (first
    |(refine bB O ?_ (hk:=aa))
    |(refine aU ?_;refine mh (f:=iF) O _ _ (by rfl) _ _ (by rfl) (aI (by rfl)) hz1 2 0 (by omega) HB2.F (by rfl) ?_))
   go_ret2
   rw[l6.F.1,l6.F.2,kC.F];exact⟨rfl,aW.mk O⟩
 have e1:decide ((n:Int)<1)=false:=bf (by omega);have e2:decide ((20:Int)< (n:Int))=false:=bf (by omega);have h20:n<=20:=by omega
 clear hout;go_enter Tryz.func81,Tryz.ntmps81
 go_wp2_with (first
  |(refine bB O ?_ (hk:=aa))
  |(refine aU ?_;refine mh (f:=iF) O _ _ (by rfl) _ _ (by rfl) (aI (by rfl)) hz1 2 0 (by omega) HB2.F (by rfl) ?_))
 have H0:Hid (Sat W _ (Tb 150 2 dS (.slice none 0 0) (jL D 0)::Cs p 68 [.slice (some ⟨ba,oa,none⟩) R.L.length cl,v2, .bool R.armed, .int .i64 R.left, .bool R.dead]::Tb 9 1 iF (.slice (some ⟨ba,oa,none⟩) R.L.length cl) R.L::Tb 150 2 wv v2 R.Log::L)):=Z O.jb;go_loopw [6,7] (fun v6 v7 wz=>∃i:Nat,v7= .int .i64 i/\i<=n/\Sat W wz (Tb 150 2 dS v6 (jL D i)::Cs p 68 [.slice (some ⟨ba,oa,none⟩) R.L.length cl,v2, .bool R.armed, .int .i64 R.left, .bool R.dead]::Tb 9 1 iF (.slice (some ⟨ba,oa,none⟩) R.L.length cl) R.L::Tb 150 2 wv v2 R.Log::L)) (fun _ v7 _=>n-(intOf v7).toNat)
 case atStart=>exact⟨0,rfl,by omega,H0.F⟩
 case round=>
  clear O H0;obtain⟨i,rfl,hi,O⟩:=hrel
  by_cases hl:i<n
  ·have i1:(i:Int)< (n:Int):=by omega
   have i2:(i:Int)<20:=by omega
   have i3:3+(i:Int)< (R.L.length:Int):=by omega
   have HL:=Z hl;have Vf:=Z (show R.L[3+i]? =some (jZ D (3+i)) by rw[<-pE.F];exact MB (by rw[<-HLEN.F];omega));obtain⟨a,ha⟩:=au (fV b (1+2*i) 2);obtain⟨d,hd⟩:=au (jZ D (3+i));have iD:=Z (show jL D i++[((a:Int),d)]=jL D (i+1) by rw[Z5,mG.F,ha,hd]);rw[hd] at Vf;have HAT:=Z ha;have jO:=Z (show(jL D i).length<=20 by rw[J8];omega);clear hl ha hd
   go_wp2_with (first
    |(refine aU ?_;refine yw O _ _ _ (by rfl) b (by rfl) yo (by rw[Bb.F];decide) ?_;clear O;intro q cq J O)
    |(go_at_call 112;refine(mQ O (some ⟨q,0,none⟩) cq b (fun w h=>h.dY aa) _ (1+2*i) 2 (by omega) (by omega) (by omega) (by rw[Bb.F];decide)).mono ?_;rw[HAT.F];rintro e J ⟨ok1,rfl,rfl⟩;replace O:=O.drop)
    |(refine bB O ?_ (hk:=hz1))
    |(refine aU ?_;refine mh (f:=iF) O _ _ (by rfl) _ _ (by rfl) (aI (by rfl)) hz2 (3+i) 0 (by omega) Vf.F (show(iF d)[0]? =some (.string ⟨d.toArray⟩) from rfl) ?_)
    |(refine il [.agg (dS (((a:Int),d))).toArray] O ?_ (hc:=by intro v hv;rw[eD.1 hv];rfl);clear O;intro b1 J O;rw[kP] at O)
    |(refine aU ?_;refine zg (f:=dS) O _ _ _ _ (by rfl) _ _ (by rfl) (by rfl) (bS (by rfl)) (by rfl) (by decide) (dO (by rfl)) (by repeat first|exact Has.z|apply Has.s) [(((a:Int),d))] (by exact vH _) (by exact O.gZ (f:=dS) aa rfl) (by exact DN _) (by simp;have:=jO.F;omega) (by simp;have:=jO.F;omega) ?_;clear O;intro uj c5 J hcap5 O;dsimp only[aD,aN] at O))
   simp only[bP,dC] at O;rw[iD.F] at O;exact⟨⟨i+1,by go_num,HL.F,O.drop⟩,by simp[intOf];have:=HL.F;omega⟩
  ·have i1:¬(i:Int)< (n:Int):=by omega
   obtain rfl:i=n:=by omega
   obtain⟨ag,cg,rfl,_⟩:=O.fA (k:=0) rfl;have wV:=Z (alM qG.F h20);have fU:=Z (show(jL D i).length<=20 by rw[J8];exact h20);have y7:=Z (ajO HD.F i);have Mc:=Z (ajQ D i);obtain⟨g,hg⟩:=au (jL D i);rw[hg] at wV fU y7 Mc O ⊢;have P9:=Z hg
   have jv:=Z (fun w (h:Sat W w (Tb 150 2 dS (.slice ag g.length cg) g::Cs p 68 [.slice (some ⟨ba,oa,none⟩) R.L.length cl,v2, .bool R.armed, .int .i64 R.left, .bool R.dead]::Tb 9 1 iF (.slice (some ⟨ba,oa,none⟩) R.L.length cl) R.L::Tb 150 2 wv v2 R.Log::L))=>(show Calls Tryz.prog 113 #[.slice ag g.length cg, .int .i64 (R.L.length:Int)] w fun e w'=>e= .returned (.bool (gT D.blocks.length g))/\Sat W w' (Tb 150 2 dS (.slice ag g.length cg) g::Cs p 68 [.slice (some ⟨ba,oa,none⟩) R.L.length cl,v2, .bool R.armed, .int .i64 R.left, .bool R.dead]::Tb 9 1 iF (.slice (some ⟨ba,oa,none⟩) R.L.length cl) R.L::Tb 150 2 wv v2 R.Log::L) by
    rw[<-HLEN.F];exact abA h g ag cg (fun w h=>h.kK aa) (by have:=fU.F;omega) (R.L.length:Nat)))
   have xW:=Z (fun w (h:Sat W w (Tb 150 2 dS (.slice ag g.length cg) g::Cs p 68 [.slice (some ⟨ba,oa,none⟩) R.L.length cl,v2, .bool R.armed, .int .i64 R.left, .bool R.dead]::Tb 9 1 iF (.slice (some ⟨ba,oa,none⟩) R.L.length cl) R.L::Tb 150 2 wv v2 R.Log::L))=>abJ h g ag cg (fun w h=>h.kK aa) fU.F Mc.F y7.F);clear hl hg
   cases hok:gT D.blocks.length g
   ·have dx:=Z (show mV D=false by rw[wV.F,hok];rfl);rw[hok] at jv;clear hok
    go_wp2_with (first
     |(refine bB O ?_ (hk:=hz1))
     |(go_at_call 113;refine ak (jv.F _ O) ?_;clear O;intro J O))
    go_ret2
    rw[(BZ dx.F).1,(BZ dx.F).2,Oz dx.F];exact⟨rfl,aW.mk O.drop⟩
   ·rw[hok] at jv
    by_cases he:hdr g=b
    ·have JZ:mV D=true:=by rw[wV.F,hok,mG.F,bL he];rfl
     have Su:=TQ (R:=R) JZ qG.F;rw[P9.F] at Su;have nY:=Z Su;have tT:=Z (fun w (h:Sat W w (aW p R::Tb 150 2 dS (.slice ag g.length cg) g::L))=>abK h gB.F HG.F (by omega) g ag cg (fun w h=>h.kK aa) fU.F y7.F);have hn1:=aaz (hdr g) b;have hn2:=aaB (hdr g) b;have hbe:(hdr g==b)=true:=beq_iff_eq.2 he;rw[hbe] at hn1;obtain⟨z,hz⟩:=au ((bH D (fC g)).1);rw[hz] at tT;have HZ:=Z hz;clear hok he JZ Su hz hbe
     by_cases hz0:z=0
     ·subst hz0
      go_wp2_with (first
       |(refine bB O ?_ (hk:=hz1))
       |(go_at_call 113;refine ak (jv.F _ O) ?_;clear O;intro J O)
       |(go_at_call 114;refine(xW.F _ O).mono ?_;clear O;rintro e J ⟨vh,rfl,O⟩)
       |((refine aU ?_;refine ou _ _ _ (by rfl) _ (by rfl) jI (by exact O.dY aa) ?_);replace O:=O.drop)
       |(go_at_call 115;refine ak (tT.F _ (aW.mk (O.re [1,2,3]))) ?_;clear O;intro J O))
      go_ret2
      rw[nY.F.1,nY.F.2.1,nY.F.2.2,HZ.F];exact⟨rfl,O.bW.drop⟩
     ·have e9:(z != 0)=true:=bne_iff_ne.2 hz0;have LD:=Z (show decide (z=0)=false from bf hz0);clear hz0
      go_wp2_with (first
       |(refine bB O ?_ (hk:=hz1))
       |(go_at_call 113;refine ak (jv.F _ O) ?_;clear O;intro J O)
       |(go_at_call 114;refine(xW.F _ O).mono ?_;clear O;rintro e J ⟨vh,rfl,O⟩)
       |((refine aU ?_;refine ou _ _ _ (by rfl) _ (by rfl) jI (by exact O.dY aa) ?_);replace O:=O.drop)
       |(go_at_call 115;refine ak (tT.F _ (aW.mk (O.re [1,2,3]))) ?_;clear O;intro J O))
      go_ret2
      rw[nY.F.1,nY.F.2.1,nY.F.2.2,HZ.F,LD.F];exact⟨rfl,O.bW.drop⟩
    ·have dx:=Z (show mV D=false by rw[wV.F,mG.F,bf he];simp);have hn1:=aaz (hdr g) b;have hn2:=aaB (hdr g) b;have hbe:(hdr g==b)=false:=dH.2 he;rw[hbe] at hn1;clear hok he hbe
     go_wp2_with (first
      |(refine bB O ?_ (hk:=hz1))
      |(go_at_call 113;refine ak (jv.F _ O) ?_;clear O;intro J O)
      |(go_at_call 114;refine(xW.F _ O).mono ?_;clear O;rintro e J ⟨vh,rfl,O⟩)
      |((refine aU ?_;refine ou _ _ _ (by rfl) _ (by rfl) jI (by exact O.dY aa) ?_);replace O:=O.drop))
     go_ret2
     rw[(BZ dx.F).1,(BZ dx.F).2,Oz dx.F];exact⟨rfl,aW.mk O.drop⟩
end Go.Proofs.YtjbiihbicknemaaGreat
