/-
  Part of the proof of StoreWhole.
-/
import Derived.Test.YtjbiihbicknemaaGreatMCrs
import Derived.Test.YtjbiihbicknemaaGreatMSrs
set_option linter.unusedSimpArgs false
set_option linter.unusedVariables false
set_option maxRecDepth 20000
set_option maxHeartbeats 40000000
namespace Go.Proofs.YtjbiihbicknemaaGreat
open Go.RowKit Go.Sep
variable {W w:World} {L:List aA}
attribute [local irreducible] Oper.wp wpList Calls Code.wp Sep.dR Sep.fJ
theorem Dw {P:Program} {w:World} {a:Act} {o:Oper} {b:Nat} {α:Type} {f:α->List Value} {l:List α} {x:α} {off n sz c:Nat} (h:Rd w (.slice (some ⟨b,off,none⟩) n c) n sz (l.flatMap f)) (hf:∀x∈l,(f x).length=sz) (T:TypeId) (y:Operand) (ho:o.op= .load T y) (ad:Nat) (hy:a.eval y= .pointer (some ⟨b,ad,none⟩)) (hT:jk P T=some true) {m:Nat} (hs:kr P T=some m)
  (i j:Nat) (hj:ad=off+(i*sz+j)) (V:l[i]? =some x) {vs:List Value} (hvs:((f x).drop j).take m=vs) (hb:vs.length=m) (hn:0<n):(execOp a.eval o).run P w= .ok (.value (.agg vs.toArray)) w:=by
 subst hj;exact uL (s:=loadVar T ⟨b,off+(i*sz+j),none⟩) (by simp[execOp,ho,hy,Instr.loadAt,Instr.sureAddr])
  (AB hT hs hb fun k u hu=>by
   have hk:k<m:=by rw[<-hb];exact(bZ.1 hu).1
   rw[<-hvs,List.getElem?_take_of_lt hk,List.getElem?_drop] at hu;rw[Nat.add_assoc,Nat.add_assoc]
   exact h.at hn (M3 hf V hu))
def McI (W:World) (L:List aA) (l:List aT) (v:Value) (wz:World):Prop:=
 ∃i:Nat,v= .int .i64 (i:Int)/\i<=l.length/\(∀j x,j<i->l[j]? =some x->uE l j x=true)/\Sat W wz L
def McK (W:World) (L:List aA) (l:List aT) (i:Nat) (a:Int) (v:Value) (wz:World):Prop:=
 ∃k:Nat,v= .int .i64 (k:Int)/\k<=i/\(∀j y,j<k->l[j]? =some y->y.at_≠a)/\Sat W wz L
def McD (W:World) (L:List aA) (x:aT) (v:Value) (wz:World):Prop:=
 ∃k:Nat,v= .int .i64 (k:Int)/\k<=x.data.length/\(∀j c,j<k->x.data[j]? =some c->c.length=128)/\Sat W wz L
theorem amv (O:Sat W w L) (l:List aT) (aq:Option Addr) (cq:Nat) (hr:∀w L',Sat W w (L'++L)->Gg w (.slice aq l.length cq) l):
  Calls Tryz.prog 91 #[.slice aq l.length cq] w fun e w'=>e= .returned (.bool (wo l))/\Sat W w' L:=by
 have HR:=Z hr;obtain⟨_,_,he,hc1,hc2,_,h5⟩:=(hr w [] O).1;obtain⟨rfl,rfl⟩:=gq he;have H5:=Z h5;have iC:=Z (show ∀x∈l,(bX x).length=40 from fun x V=>AJ ((hr w [] O).2 x V).pl);have eX:=Z (show ∀x∈l,x.ino.ptrs.length=32 from fun x V=>((hr w [] O).2 x V).pl);obtain⟨ln,hln⟩:=au l.length;have aM:=Z hln;have pM:(ln:Int)<=9223372036854775807:=by omega
 clear hr h5;rw[hln]
 by_cases h8:8<ln
 ·have qX:=Z (show wo l=false by unfold wo;rw[hln,bf (by omega)];rfl);have RZ:(8:Int)< (ln:Int):=by omega
  clear hln hc1 hc2 h8;go_enter Tryz.func91,Tryz.ntmps91;go_wp2;go_ret;rw[qX.F];exact⟨rfl,O⟩
 have RZ:¬((8:Int)< (ln:Int)):=by omega
 have H8:=Z (show l.length<=8 by omega);clear hln hc1 hc2 h8;go_enter Tryz.func91,Tryz.ntmps91;go_wp2;have H0:=Z O;clear O;go_loopw [3] (fun v3 wz=>McI W L l v3 wz) (fun v3 _=>iV ln v3)
 case atStart=>exact⟨0,rfl,eG _,fun j x hj=>absurd hj (qd _),H0.F⟩
 case round=>
  clear H0;obtain⟨i,rfl,hi,hall,O⟩:=hrel;rw[aM.F] at hi;have jE:=Z hall;clear hall
  by_cases hlt:i<ln
  ·have k1:(i:Int)< (ln:Int):=by omega
   have ay:=Z hlt;obtain⟨pb,po,rfl,_⟩:=H5.F (by have:=aM.F;omega);obtain⟨x,V⟩:∃x,l[i]? =some x:=⟨_,aR (by have:=aM.F;omega)⟩
   have dD:=Z V;have hxm:=bJ V;have ru:=Z hxm;have hpl:=eX.F x hxm;have jf:=Z (FI hpl);have jW:=Z (OV hpl);have hso:uE l i x=((!decide (x.at_<0)&& !decide (48<=x.at_))&&((x.data.length==x.pieces.length)&&(!o8 l i x.at_.toNat&&x.data.all (fun c=>c.length==128)))):=rfl;obtain⟨q,hq⟩:=au x.at_;have G0:=Z (show(bX x)[0]? =some (.int .i64 q) by rw[<-hq];rfl);rw[hq] at hso;have nN:=(HR.F _ [] O).2 x hxm;obtain⟨ap,cp,hpv⟩:∃ao c,x.nP= .slice ao x.pieces.length c:=by obtain⟨ao,c,he,_⟩:=nN.p;exact⟨ao,c,he⟩
   obtain⟨ad,cd,hdv⟩:∃ao c,x.uq= .slice ao x.data.length c:=by obtain⟨ao,c,he,_⟩:=nN.d;exact⟨ao,c,he⟩
   have hnb:x.data.length<=9223372036854775807:=by
    obtain⟨_,_,he,I,H,_⟩:=nN.d;omega
   obtain⟨np,fT⟩:=au x.pieces.length;obtain⟨nd,hnd⟩:=au x.data.length;rw[hpv,fT] at jf;rw[hdv,hnd] at jW;rw[fT,hnd] at hso;rw[hnd] at hnb;have jQ:=Z hso;have dP:=Z hnd;have zQ:=Z hdv;have ndi:(nd:Int)<=9223372036854775807:=by omega
   have hcase:(decide (q<0)=true∨(decide (q<0)=false/\decide (48<=q)=true)∨(decide (q<0)=false/\decide (48<=q)=false/\((nd:Int) != (np:Int))=true))∨(decide (q<0)=false/\decide (48<=q)=false/\((nd:Int) != (np:Int))=false):=by
    cases decide (q<0)<;>cases decide (48<=q)<;>cases ((nd:Int) != (np:Int))<;>simp
   clear V hxm hpl hso hq hlt hi nN hpv hdv fT hnd hnb
   rcases hcase with hcase|⟨e1,e2,e3⟩
   ·have qX:=Z (show uE l i x=false by
     rw[jQ.F]
     rcases hcase with e1|⟨e1,e2⟩|⟨e1,e2,e3⟩
     ·rw[e1];rfl
     ·rw[e1,e2];rfl
     ·rw[show(nd==np)=false by
       have h:=bne_iff_ne.1 e3
       exact dH.2 (by omega)]
      rw[Bool.false_and,Bool.and_false])
    rcases hcase with e1|⟨e1,e2⟩|⟨e1,e2,e3⟩
    all_goals
     go_wp2
     (refine cB (pO [0,1]<|tO [2]<|pO [3]<|rO [4]<|pO [5,6,7,8]<|tO [9]<|pO [10]<|rO [11]<|pO [12,13,14,15,16]<|tO [17]<|pO [18]<|rO [19]<|pO [20,21,22]<|tO [23]<|pO [24]<|rO [25]<|pO [26,27,28]<| .e) [] O ?_;clear O;intro J O)
     repeat (first
      |(refine bG O ?_;go_frame)
      |(refine oI O ?_;apply Exists.intro;apply And.intro;(intro w;first|go_simp;rw[if_pos (by omega)]|(go_simp;try with_reducible rfl));go_frame)
      |(refine sK O ?_;go_frame)
      |(refine bR O ?_;(first
           |refine⟨_,fun u hu=>fE (f:=bX) (x:=x) (HR.F u [] hu).1 iC.F _ _ (by rfl) _ (by rfl) (aI (by rfl)) i 0 (by omega) dD.F G0.F (by have:=ay.F;have:=aM.F;omega),?_⟩
           |refine⟨_,fun u hu=>fE (f:=bX) (x:=x) (HR.F u [] hu).1 iC.F _ _ (by rfl) _ (by rfl) (aI (by rfl)) i 38 (by omega) dD.F jf.F (by have:=ay.F;have:=aM.F;omega),?_⟩
           |refine⟨_,fun u hu=>fE (f:=bX) (x:=x) (HR.F u [] hu).1 iC.F _ _ (by rfl) _ (by rfl) (aI (by rfl)) i 39 (by omega) dD.F jW.F (by have:=ay.F;have:=aM.F;omega),?_⟩);go_frame))
     refine bO ?_;go_wp2;go_ret;rw[SV dD.F qX.F];exact⟨rfl,O⟩
   ·have hdp:nd=np:=by
     have h:(nd:Int)=(np:Int):=by simpa using e3
     omega
    have hq0:=of_decide_eq_false e1;obtain⟨n,rfl⟩:∃n:Nat,q=(n:Int):=⟨q.toNat,by omega⟩;have hso:=jQ.F;rw[e1,e2,show(nd==np)=true from beq_iff_eq.2 hdp,fu,amV] at hso;have Zk:uE l i x=(!Hf l i (n:Int)&&x.data.all (fun c=>c.length==128)):=hso;have HS2:=Z Zk;clear hso Zk hdp hq0;go_wp2
    (refine cB (pO [0,1]<|tO [2]<|pO [3]<|rO [4]<|pO [5,6,7,8]<|tO [9]<|pO [10]<|rO [11]<|pO [12,13,14,15,16]<|tO [17]<|pO [18]<|rO [19]<|pO [20,21,22]<|tO [23]<|pO [24]<|rO [25]<|pO [26,27,28]<| .e) [] O ?_;clear O;intro J O)
    repeat (first
     |(refine bG O ?_;go_frame)
     |(refine oI O ?_;apply Exists.intro;apply And.intro;(intro w;first|go_simp;rw[if_pos (by omega)]|(go_simp;try with_reducible rfl));go_frame)
     |(refine sK O ?_;go_frame)
     |(refine bR O ?_;(first
         |refine⟨_,fun u hu=>fE (f:=bX) (x:=x) (HR.F u [] hu).1 iC.F _ _ (by rfl) _ (by rfl) (aI (by rfl)) i 0 (by omega) dD.F G0.F (by have:=ay.F;have:=aM.F;omega),?_⟩
         |refine⟨_,fun u hu=>fE (f:=bX) (x:=x) (HR.F u [] hu).1 iC.F _ _ (by rfl) _ (by rfl) (aI (by rfl)) i 38 (by omega) dD.F jf.F (by have:=ay.F;have:=aM.F;omega),?_⟩
         |refine⟨_,fun u hu=>fE (f:=bX) (x:=x) (HR.F u [] hu).1 iC.F _ _ (by rfl) _ (by rfl) (aI (by rfl)) i 39 (by omega) dD.F jW.F (by have:=ay.F;have:=aM.F;omega),?_⟩);go_frame))
    refine bO ?_;go_wp2;clear e1 e2 e3;have H1:=Z O;clear O;go_loopw [4] (fun v4 wz=>McK W L l i (n:Int) v4 wz) (fun v4 _=>iV i v4)
    case atStart=>exact⟨0,rfl,eG _,fun j x hj=>absurd hj (qd _),H1.F⟩
    case round=>
     clear H1;obtain⟨k,rfl,hk,hall,O⟩:=hrel;have PI:=Z hall;clear hall
     by_cases hki:k<i
     ·have k2:(k:Int)< (i:Int):=by omega
      have k3:(k:Int)< (ln:Int):=by omega
      have Qf:=Z hki;obtain⟨y,hy⟩:∃y,l[k]? =some y:=⟨_,aR (by have:=aM.F;have:=ay.F;omega)⟩
      have zW:=Z hy;obtain⟨p,hp⟩:=au y.at_;have HP:=Z hp;have GY:=Z (show(bX y)[0]? =some (.int .i64 p) by rw[<-hp];rfl);clear hy hp hki hk
      by_cases hpn:p=(n:Int)
      ·have qX:=Z (show uE l i x=false by rw[HS2.F,aiL zW.F Qf.F (HP.F.trans hpn)];rfl);have e4:(p==(n:Int))=true:=beq_iff_eq.2 hpn;clear hpn;go_wp2
       (refine cB (pO [0,1]<|tO [2]<|pO [3]<|rO [4]<|pO [5,6]<|tO [7]<|pO [8]<|rO [9]<|pO [10]<| .e) [] O ?_;clear O;intro J O)
       repeat (first
        |(refine bG O ?_;go_frame)
        |(refine oI O ?_;apply Exists.intro;apply And.intro;(intro w;first|go_simp;rw[if_pos (by omega)]|(go_simp;try with_reducible rfl));go_frame)
        |(refine bR O ?_;(first
               |refine⟨_,fun u hu=>fE (f:=bX) (x:=y) (HR.F u [] hu).1 iC.F _ _ (by rfl) _ (by rfl) (aI (by rfl)) k 0 (by omega) zW.F GY.F (by have:=ay.F;have:=aM.F;omega),?_⟩
               |refine⟨_,fun u hu=>fE (f:=bX) (x:=x) (HR.F u [] hu).1 iC.F _ _ (by rfl) _ (by rfl) (aI (by rfl)) i 0 (by omega) dD.F G0.F (by have:=ay.F;have:=aM.F;omega),?_⟩);go_frame))
       refine bO ?_;go_wp2;go_ret;rw[SV dD.F qX.F];exact⟨rfl,O⟩
      ·have e4:(p==(n:Int))=false:=dH.2 hpn;have nW:=Z hpn;clear hpn;go_wp2
       (refine cB (pO [0,1]<|tO [2]<|pO [3]<|rO [4]<|pO [5,6]<|tO [7]<|pO [8]<|rO [9]<|pO [10]<| .e) [] O ?_;clear O;intro J O)
       repeat (first
        |(refine bG O ?_;go_frame)
        |(refine oI O ?_;apply Exists.intro;apply And.intro;(intro w;first|go_simp;rw[if_pos (by omega)]|(go_simp;try with_reducible rfl));go_frame)
        |(refine bR O ?_;(first
               |refine⟨_,fun u hu=>fE (f:=bX) (x:=y) (HR.F u [] hu).1 iC.F _ _ (by rfl) _ (by rfl) (aI (by rfl)) k 0 (by omega) zW.F GY.F (by have:=ay.F;have:=aM.F;omega),?_⟩
               |refine⟨_,fun u hu=>fE (f:=bX) (x:=x) (HR.F u [] hu).1 iC.F _ _ (by rfl) _ (by rfl) (aI (by rfl)) i 0 (by omega) dD.F G0.F (by have:=ay.F;have:=aM.F;omega),?_⟩);go_frame))
       refine bO ?_;go_wp2
       exact⟨⟨k+1,by go_num,Qf.F,fun j z hj hz=>by
        by_cases e:j=k
        ·subst e;rw[zW.F] at hz;rw[<-ig hz,HP.F];exact nW.F
        ·exact PI.F j z (by omega) hz,O⟩,fZ Qf.F⟩
     ·obtain rfl:k=i:=by omega
      have k2:¬(k:Int)< (k:Int):=by omega
      have HHN:=Z (aiM (a:=(n:Int)) (fun j y hj hy=>PI.F j y hj hy));clear hki hk;go_wp2;have H2:=Z O;clear O PI;go_loopw [5] (fun v5 wz=>McD W L x v5 wz) (fun v5 _=>iV nd v5)
      case atStart=>exact⟨0,rfl,eG _,fun j x hj=>absurd hj (qd _),H2.F⟩
      case round=>
       clear H2;obtain⟨j,rfl,hj,zq,O⟩:=hrel;rw[dP.F] at hj;have Ct:=Z zq;clear zq;have iY:=Z (HR.F _ [] O).1
       by_cases hjl:j<nd
       ·have k3:(j:Int)< (nd:Int):=by omega
        have tX:=Z hjl;have nN:=(HR.F _ [] O).2 x ru.F;have hrd:=nN.d;rw[zQ.F,dP.F] at hrd;obtain⟨_,_,he,_,_,_,h7⟩:=id hrd;obtain⟨rfl,rfl⟩:=gq he;obtain⟨db,Gx,rfl,_⟩:=h7 (by omega);have iB:=Z hrd;obtain⟨c,hc⟩:∃c,x.data[j]? =some c:=⟨_,aR (by rw[dP.F];exact hjl)⟩
        obtain⟨v,hv⟩:∃v,x.l9[j]? =some v:=⟨_,aR (by rw[nN.dl,dP.F];exact hjl)⟩
        obtain⟨vc,IJ,rfl,_⟩:=nN.b j v c hv hc;obtain⟨lc,hlc⟩:=au c.length;rw[hlc] at hv;have HV:=Z hv;have HC:=Z hc;have Ja:=Z hlc;clear hj hjl nN hrd h7 hc hv hlc
        by_cases h128:lc=128
        ·subst h128
         go_wp2_with (first
          |(refine bN (fE (f:=bX) (x:=x) iY.F iC.F _ _ (by rfl) _ (by rfl) (aI (by rfl)) k 39 (by omega) dD.F jW.F (by have:=ay.F;have:=aM.F;omega)) ?_)
          |(refine bN (fF iB.F _ _ (by rfl) _ (by rfl) (aI (by rfl)) j (by omega) HV.F (by have:=tX.F;omega)) ?_))
         exact⟨⟨j+1,by go_num,by rw[dP.F];exact tX.F,fun m d hm hd=>by
          by_cases e:m=j
          ·subst e;rw[HC.F] at hd;rw[<-ig hd];exact Ja.F
          ·exact Ct.F m d (by omega) hd,O⟩,fZ tX.F⟩
        ·have e7:((lc:Int) != 128)=true:=bne_iff_ne.2 (by omega)
         have qX:=Z (show uE l k x=false by
          rw[HS2.F,show x.data.all (fun c=>c.length==128)=false by
           rw[List.all_eq_false]
           exact⟨c,bJ HC.F,by rw[Ja.F,dH.2 h128];decide⟩,Bool.and_false])
         clear h128
         go_wp2_with (first
          |(refine bN (fE (f:=bX) (x:=x) iY.F iC.F _ _ (by rfl) _ (by rfl) (aI (by rfl)) k 39 (by omega) dD.F jW.F (by have:=ay.F;have:=aM.F;omega)) ?_)
          |(refine bN (fF iB.F _ _ (by rfl) _ (by rfl) (aI (by rfl)) j (by omega) HV.F (by have:=tX.F;omega)) ?_))
         go_ret;rw[SV dD.F qX.F];exact⟨rfl,O⟩
       ·obtain rfl:j=nd:=by omega
        have k3:¬(j:Int)< (j:Int):=by omega
        have aeA:=Z (show uE l k x=true by
         rw[HS2.F,HHN.F,show x.data.all (fun c=>c.length==128)=true by
          rw[jV];intro c hc;obtain⟨m,hm⟩:=jJ hc;rw[Ct.F m c (by have:=(bZ.1 hm).1;have:=dP.F;omega) hm]
          rfl]
         rfl)
        clear hj hjl
        go_wp2_with (refine bN (fE (f:=bX) (x:=x) iY.F iC.F _ _ (by rfl) _ (by rfl) (aI (by rfl)) k 39 (by omega) dD.F jW.F (by have:=ay.F;have:=aM.F;omega)) ?_)
        exact⟨⟨k+1,by go_num,by rw[aM.F];exact ay.F,fun m z hm hz=>by
         by_cases e:m=k
         ·subst e;rw[dD.F] at hz;rw[<-ig hz];exact aeA.F
         ·exact jE.F m z (by omega) hz,O⟩,fZ ay.F⟩
  ·obtain rfl:i=ln:=by omega
   have k1:¬(i:Int)< (i:Int):=by omega
   have HY:=Z (aaj H8.F (fun j x V=>jE.F j x (by have:=(bZ.1 V).1;have:=aM.F;omega) V));clear hlt hi;go_wp2;go_ret;rw[HY.F];exact⟨rfl,O⟩
theorem agT {l:List Int} {k:Nat} {p b:Int} (h:l[k]? =some p):(l.take (k+1)).contains b=((l.take k).contains b || (p==b)):=by
 rw[ik,h]
 by_cases e:p=b
 ·subst e;simp
 ·have e2:¬b=p:=fun h=>e h.symm
  simp[e,e2]
def FkB (W:World) (L:List aA) (x:aL) (p2 n:Nat) (v6 v5:Value) (wz:World):Prop:=
 ∃j b:Nat,v6= .int .i64 (b:Int)/\74+j=b/\j<=950/\(kT x.ptrs j).length<=n/\Sat W wz (Ir v5 (kT x.ptrs j)::Cs p2 78 (inv x)::L)
theorem aa3 {b:Nat} (h:b<1024):Ay (.int .i64 ((b:Int)+1))<Ay (.int .i64 (b:Int)):=by
 unfold Ay;show 1024-((b:Int)+1).toNat<1024-((b:Int)).toNat;omega
def FkK (W:World) (R:List aA) (x:aL) (b:Int) (v8 v7:Value) (wz:World):Prop:=
 ∃k:Nat,v8= .int .i64 (k:Int)/\k<=32/\v7= .bool ((x.ptrs.take k).contains b)/\Sat W wz R
theorem amj (O:Sat W w L) (x:aL) (V:kD x) (n:Nat) (hn:n<=9223372036854775807):
  Calls Tryz.prog 93 #[.agg (inv x).toArray, .int .i64 (n:Int)] w fun e w'=>∃v,e= .returned v/\Sat W w' (Ir v (iR x.ptrs n)::L):=by
 have wZ:=Z V.pl;have Jm:=Z (fun(k:Nat) p (h:x.ptrs[k]? =some p)=>xA h);obtain⟨xv,hxv⟩:=au (inv x);have ug:=Z hxv;rw[hxv] at Jm ⊢;have nn:(n:Int)<=9223372036854775807:=by omega
 clear hxv V hn;go_enter Tryz.func93,Tryz.ntmps93
 go_wp2_with (refine bV O ?_;clear O;intro p2 J O;rw[aS] at O)
 have H1:=Z O.wh;clear O;go_loopw [6,5] (fun v6 v5 wz=>FkB W L x p2 n v6 v5 wz) (fun v6 _ _=>Ay v6)
 case atStart=>exact⟨0,74,rfl,rfl,by decide,eG _,by rw[ug.F];exact H1.F⟩
 case round=>
  clear H1;obtain⟨j,b,rfl,hb,hj,hln,O⟩:=hrel;have HB:=Z hb;rw[ug.F] at O;have aM:=Z hln;obtain⟨Ww,c8,rfl,_⟩:=O.mg aa
  by_cases hlt:j<950
  ·have k2:(b:Int)<1024:=by omega
   have B10:=Z (show b<1024 by omega);have ay:=Z hlt;obtain⟨m,hm⟩:=au ((kT x.ptrs j).length);have HM:=Z hm
   by_cases zt:m<n
   ·have vN:=Z zt;have e2:(m:Int)< (n:Int):=by omega
    have iD:=Z (aa6 x.ptrs j);rw[hb] at iD;have uZ:m<=950:=by rw[<-hm];exact Nat.le_trans (aa5 _ _) (by omega)
    have jg:=Z uZ;rw[hm] at O ⊢;clear hm zt hj hlt hln uZ hb;go_wp2;have H4:=Z O;obtain⟨R,hR⟩:=au (Ir (.slice Ww m c8) (kT x.ptrs j)::Cs p2 78 xv::L);have F8:=Z hR;have HH:=Z (show Has R 1 (Cs p2 78 xv) by rw[<-hR];exact hz1);rw[hR] at H4;clear O hR;go_loopw [8,7] (fun v8 v7 wz=>FkK W R x (b:Int) v8 v7 wz) (fun v8 _ _=>iV 32 v8)
    case atStart=>exact⟨0,rfl,by decide,by simp,H4.F⟩
    case round=>
     clear H4;obtain⟨k,rfl,hk,rfl,O⟩:=hrel
     by_cases hkl:k<32
     ·have j2:(k:Int)<32:=by omega
      have oN:=Z hkl;obtain⟨p,hp⟩:∃p,x.ptrs[k]? =some p:=⟨_,aR (by rw[wZ.F];exact hkl)⟩
      have GX:=Z (Jm.F k p hp);have hsn:=agT (b:=(b:Int)) hp;obtain⟨s,hs⟩:=au ((x.ptrs.take k).contains (b:Int));have rq:=Z (show(x.ptrs.take (k+1)).contains (b:Int)=(s || (p==(b:Int))) by rw[hsn,hs]);rw[hs];clear hkl hk hp hsn hs
      cases s with
      |true=>
       go_wp2;exact⟨⟨k+1,by go_num,oN.F,by rw[rq.F];rfl,O⟩,fZ oN.F⟩
      |false=>
       go_wp2_with (refine aH O HH.F GX.F ?_)
       exact⟨⟨k+1,by go_num,oN.F,by rw[rq.F];rfl,O⟩,fZ oN.F⟩
     ·obtain rfl:k=32:=by omega
      rw[<-F8.F] at O;rw[show x.ptrs.take 32=x.ptrs from dF (by rw[wZ.F];exact aZ _)];obtain⟨s,hs⟩:=au (x.ptrs.contains (b:Int));rw[hs] at iD ⊢;clear hkl hk hs
      cases s with
      |true=>
       have hsu:kT x.ptrs j=kT x.ptrs (j+1):=by rw[iD.F];simp
       rw[hsu] at O;have jK:=Z hsu;clear hsu;go_wp2;exact⟨⟨j+1,b+1,by go_num,by have:=HB.F;omega,ay.F,by rw[<-jK.F];exact aM.F,by rw[ug.F];exact O⟩,aa3 B10.F⟩
      |false=>
       go_wp2_with (first
        |(refine il [.int .i64 (b:Int)] O ?_ (hc:=by simp[Value.cells]);clear O;intro b1 J O;rw[jC rfl] at O)
        |(at_builtin;refine aU ?_;refine rz O _ _ _ _ (by rfl) (by rfl) (by rfl) (bS (by rfl)) (by rfl) (by rfl) (by rfl) (dO (by rfl)) hz1 (m:=[b]) (by exact O.jc (sz:=1) aa (by decide) rfl) (by have:=jg.F;rw[HM.F];simp;omega) ?_;intro v' J hS1;clear O;have O:=hS1;clear hS1;dsimp only[aD,aN] at O))
       have hsu:kT x.ptrs j++[b]=kT x.ptrs (j+1):=by rw[iD.F];simp
       rw[hsu] at O;exact⟨⟨j+1,b+1,by go_num,by have:=HB.F;omega,ay.F,by rw[<-hsu,bP,HM.F];exact vN.F,by rw[ug.F];exact O.drop⟩,aa3 B10.F⟩
   ·have gz:=Z (aa8 hj (show(kT x.ptrs j).length=n by omega));have e2:¬(m:Int)< (n:Int):=by omega
    rw[hm] at O ⊢;clear hm zt hj hlt hln hb;go_wp2;go_ret;rw[gz.F];exact⟨_,rfl,(O.re [1,0]).drop⟩
  ·obtain rfl:j=950:=by omega
   have k2:¬(b:Int)<1024:=by omega
   have gz:=Z (aa7 hln);clear hj hlt hln hb;go_wp2;go_ret;rw[gz.F];exact⟨_,rfl,(O.re [1,0]).drop⟩
open Go.RowKit Go.Sep Go.ChangeShapes Go.WideShapes Go.ChangeAt
structure mI where
 at_:Int
 ino:aL
 pieces:List Int
 data:List (List UInt8)
 raw:Bool
 nP:Value
 uq:Value
 l9:List Value
def kg (x:mI):List Value:= .int .i64 x.at_::(inv x.ino++[x.nP,x.uq, .bool x.raw])
def Ap (n:Int):Prop:= -9223372036854775808<=n/\n<=9223372036854775807
structure mI.Ok (W:World) (x:mI):Prop where
 pl:x.ino.ptrs.length=32
 s:Ap x.ino.size
 a:Ap x.at_
 p:Rd W x.nP x.pieces.length 1 (pv x.pieces)
 pw:x.pieces.length*8<=reachBytes
 pb:∀y∈x.pieces,Ap y
 dl:x.l9.length=x.data.length
 d:Rd W x.uq x.data.length 1 x.l9
 b:∀(k:Nat) v c,x.l9[k]? =some v->x.data[k]? =some c->Rd W v c.length 1 (bv c)
 dw:x.data.length*24<=reachBytes
 bw:∀c∈x.data,c.length<=reachBytes
theorem aaa {x:mI} (h:x.ino.ptrs.length=32):(kg x).length=41:=by
 unfold kg;rw[fB,bP,fe,h];rfl
theorem ajZ {x:mI} (h:x.ino.ptrs.length=32):((kg x).drop 1).take 37=inv x.ino:=by
 unfold kg;rw[List.drop_succ_cons,kz,List.take_append_of_le_length (by rw[fe,h];exact aZ _),dF (by rw[fe,h];exact aZ _)]
theorem aab {x:mI} (h:x.ino.ptrs.length=32):(kg x)[38]? =some x.nP/\(kg x)[39]? =some x.uq/\(kg x)[40]? =some (.bool x.raw):=by
 unfold kg;refine⟨?_,?_,?_⟩<;>(rw[xO,rP (by rw[fe,h];decide),fe,h];rfl)
structure ji where
 kind:Int
 n:Int
 m:Int
 shown:Bool
 lv:Value
 recs:List bM
 mD:Value
 sets:List mI
def j6 (x:ji):List Value:=[.int .i64 x.kind, .int .i64 x.n, .int .i64 x.m, .bool x.shown,x.lv,x.mD]
structure ji.Ok (W:World) (x:ji):Prop where
 k:Ap x.kind
 n:Ap x.n
 m:Ap x.m
 l:Rd W x.lv x.recs.length 3 (x.recs.flatMap rv)
 s:Rd W x.mD x.sets.length 41 (x.sets.flatMap kg)
 so:∀y∈x.sets,y.Ok W
 lw:x.recs.length*24<=reachBytes
 sw:x.sets.length*8<=reachBytes
section
variable {fP:Type} {enc:TypeId×Value->fP} {W:World}
theorem Fg {n:Int} (h:(Lit.int .i64 n).wf=true):Ap n:=by
 simp[Lit.wf,IntKind.min,IntKind.max,IntKind.signed,IntKind.bits] at h;exact h
theorem Xd:∀ {cs:List Value},(∀i,i<cs.length->∃n:Int,(cs.drop (i*1)).take 1=[.int .i64 n])->∃l:List Int,cs=pv l/\l.length=cs.length
 |[],_=>⟨[],rfl,rfl⟩
 |c::cs,h=>by
  obtain⟨n,hn⟩:=h 0 (Nat.zero_lt_succ _)
  obtain⟨l,I,H⟩:=Xd (cs:=cs) (fun i hi=>by
   obtain⟨m,hm⟩:=h (i+1) (by rw[fB];omega);refine⟨m,?_⟩;rw[Nat.mul_one] at hm ⊢;rw[List.drop_succ_cons] at hm
   exact hm)
  rw[Nat.zero_mul,kz,List.take_succ_cons,List.take_zero] at hn;have hc:c= .int .i64 n:=(List.cons.inj hn).1;refine⟨n::l,?_,by rw[fB,fB,H]⟩;rw[hc,I];rfl
theorem agA {r:List Value} {a b c d e:Value} {X:List Value} (h:r.length=37) (h0:(r.drop 0).take 1=[a]) (I:(r.drop 1).take 1=[b]) (H:(r.drop 2).take 1=[c]) (h3:(r.drop 3).take 1=[d]) (h4:(r.drop 4).take 1=[e]) (h5:(r.drop 5).take 32=X):r=[a,b,c,d,e]++X:=by
 match r,h with
 |x0::x1::x2::x3::x4::s,h=>
  simp only[fB] at h;simp at h0 I H h3 h4;subst h0;subst I;subst H;subst h3;subst h4;subst h5;show _=[_,_,_,_,_]++s.take 32;rw[dF (by omega)];rfl
theorem ac4 {P:Program} {e:TypeId} {d:DataW fP} :∀ {l:List (DataW fP)} {i n:Nat},l[i]? =some d->n∈d.weights P e->n∈DataW.weightsAll P e l
 |[],i,n,h,_=>by simp at h
 |x::l,0,n,h,hn=>by
  rw[DataW.weightsAll];rw[List.getElem?_cons_zero] at h;rw[<-ig h] at hn;exact nC _ hn
 |x::l,i+1,n,h,hn=>by
  rw[DataW.weightsAll];rw[xO] at h;exact nD _ (ac4 h hn)
theorem Il {P:Program} {α:Type} {f:α->List Value} {Q:α->Prop} {t e sz bytes:Nat} (ht:P.underlying t=some (.slice e)) (hc:P.cellsOf e=sz) (hs:0<sz) (hb:P.bytesOf e=bytes) {ao:Option Addr} {len cap:Nat} {d:DataW fP} {ps:List MemPlace}
  (h:DataW.Trod enc P W 0 (fun _=>true) true t (.slice ao len cap) d ps) (hw:∀m∈d.weights P t,m<=reachBytes)
  (hrow:∀(r:List Value) (n:Nat) (x:DataW fP×List MemPlace),r.length=sz->DataW.trod enc P W 0 (fun _=>true) true n e r=some x->(∀m∈x.1.weights P e,m<=reachBytes)->∃y,r=f y/\Q y):
  ∃l:List α,l.length=len/\Rd W (.slice ao len cap) len sz (l.flatMap f)/\(∀x∈l,Q x)/\len*bytes<=reachBytes:=by
 obtain⟨rows,I,H,h3,h4⟩:=akI ht hc hs h
 have hr:∀r∈rows,∃y,r=f y/\Q y:=fun r hr=>by
  obtain⟨i,hi⟩:=jJ hr;obtain⟨h5,n,x,V,h6⟩:=h4 i r hi;refine hrow r n x h5 V (fun m hm=>?_)
  rcases h3 with⟨_,rfl⟩|⟨es,sp,he,_⟩
  ·simp at hr
  ·refine hw m ?_;rw[he];simp only[DataW.weights,ht];exact List.mem_cons_of_mem _ (nC _ (ac4 (h6 es sp he) hm))
 obtain⟨l,h5,h6,h7⟩:=abR hr;refine⟨l,by omega,by rw[<-h5];exact H,h7,?_⟩
 rcases h3 with⟨_,rfl⟩|⟨es,sp,he,hl⟩
 ·rw[<-I];simp
 ·have:=hw ((es.length+sp.length)*bytes) (by
   rw[he];simp only[DataW.weights,ht];rw[hb]
   exact List.mem_cons_self ..)
  rw[<-hl];exact Nat.le_trans (Nat.mul_le_mul_right _ (by omega)) this
theorem Nw {P:Program} {t:TypeId} {fs:Array Field} {xs:List (DataW fP×List MemPlace)} (ht:P.underlying t=some (.struct fs)) (hw:∀m∈(DataW.agg (xs.map (·.1))).weights P t,m<=reachBytes) {i:Nat} {f:Field} {y:DataW fP×List MemPlace} (hf:fs[i]? =some f) (hy:xs[i]? =some y):
  ∀m∈y.1.weights P f.type,m<=reachBytes:=by
 refine SX (ts:=fs.toList.map (·.type)) (ds:=xs.map (·.1)) ?_ i ?_ ?_
 ·rw[jV];intro n hn;refine bL (hw n ?_);simp only[DataW.weights,ht];exact hn
 ·rw[kY,Array.getElem?_toList,hf];rfl
 ·rw[kY,hy];rfl
theorem akB {n:Nat} {cs:List Value} {x:DataW fP×List MemPlace} (h:DataW.trod enc Tryz.prog W 0 (fun _=>true) true n 78 cs=some x):∃y:aL,cs=inv y/\y.ptrs.length=32/\Ap y.size:=by
 have c1:Tryz.prog.cellsOf 3=1:=by kernel_rfl
 have c2:Tryz.prog.cellsOf 76=32:=by kernel_rfl
 have c3:Tryz.prog.cellsOf 78=37:=by kernel_rfl
 obtain⟨xs,m,_,_,hcl,hlen,hf⟩:=DataW.trod_struct Tryz.underlying78 h;rw[c3] at hcl;have hlen:xs.length=6:=hlen;have f0:DataW.trod enc Tryz.prog W 0 (fun _=>true) true m 3 ((cs.drop 0).take (Tryz.prog.cellsOf 3))=xs[0]? :=hf 0 _ rfl
 have f1:DataW.trod enc Tryz.prog W 0 (fun _=>true) true m 3 ((cs.drop 1).take (Tryz.prog.cellsOf 3))=xs[1]? :=hf 1 _ rfl
 have f2:DataW.trod enc Tryz.prog W 0 (fun _=>true) true m 3 ((cs.drop 2).take (Tryz.prog.cellsOf 3))=xs[2]? :=hf 2 _ rfl
 have f3:DataW.trod enc Tryz.prog W 0 (fun _=>true) true m 3 ((cs.drop 3).take (Tryz.prog.cellsOf 3))=xs[3]? :=hf 3 _ rfl
 have f4:DataW.trod enc Tryz.prog W 0 (fun _=>true) true m 3 ((cs.drop 4).take (Tryz.prog.cellsOf 3))=xs[4]? :=hf 4 _ rfl
 have f5:DataW.trod enc Tryz.prog W 0 (fun _=>true) true m 76 ((cs.drop 5).take (Tryz.prog.cellsOf 76))=xs[5]? :=hf 5 _ rfl
 rw[c1,aR (by omega)] at f0 f1 f2 f3 f4;rw[c2,aR (by omega)] at f5;obtain⟨k0,e0,_,w0⟩:=DataW.trod_int Tryz.underlying3 f0;obtain⟨k1,e1,_,J⟩:=DataW.trod_int Tryz.underlying3 f1;obtain⟨k2,e2,_,w2⟩:=DataW.trod_int Tryz.underlying3 f2;obtain⟨k3,e3,_,w3⟩:=DataW.trod_int Tryz.underlying3 f3;obtain⟨k4,e4,_,w4⟩:=DataW.trod_int Tryz.underlying3 f4;obtain⟨ys,m2,_,_,Y1,hyl,hy⟩:=DataW.trod_array Tryz.underlying76 f5;rw[c2] at Y1
 obtain⟨l,hl,hll⟩:=Xd (cs:=(cs.drop 5).take 32) (fun i hi=>by
  have I:=hy i (by omega);rw[c1,aR (by omega)] at I;obtain⟨k,e,_,_⟩:=DataW.trod_int Tryz.underlying3 I
  exact⟨k,e⟩)
 refine⟨⟨k0,k1,k2,k3,k4,l⟩,?_,by rw[hll,Y1],Fg J⟩;rw[agA hcl e0 e1 e2 e3 e4 hl];rfl
def Zy (y:Int):List Value:=[.int .i64 y]
theorem ai8 (l:List Int):l.flatMap Zy=pv l:=by
 unfold pv
 induction l with
 |nil=>rfl
 |cons x l ih=>rw[pY,ih];rfl
theorem akC {n:Nat} {cs:List Value} {x:DataW fP×List MemPlace} (h:DataW.trod enc Tryz.prog W 0 (fun _=>true) true n 88 cs=some x) (hw:∀m∈x.1.weights Tryz.prog 88,m<=reachBytes):
  ∃(v:Value) (l:List Int),cs=[v]/\Rd W v l.length 1 (pv l)/\(∀y∈l,Ap y)/\l.length*8<=reachBytes:=by
 rcases DataW.trod_slice Tryz.underlying88 h with⟨I,_⟩|⟨a,len,cap,elems,rest,m,_,I,_⟩
 ·exact⟨_,[],I,⟨none,0,rfl,aZ _,by omega,rfl,fun h=>by simp at h⟩,fun _ h=>(by cases h),by decide⟩
 ·subst I
  obtain⟨l,I,H,h3,h4⟩:=Il (f:=Zy) (Q:=Ap) (sz:=1) (bytes:=8) (d:=x.1) (ps:=x.2) Tryz.underlying88 (by kernel_rfl) (by decide) (by kernel_rfl) ⟨n,h⟩ hw (fun r n x _ h _=>by
   obtain⟨k,e,_,w⟩:=DataW.trod_int Tryz.underlying3 h
   exact⟨k,e,Fg w⟩)
  rw[ai8,<-I] at H;exact⟨_,l,rfl,by rw[I] at H ⊢;exact H,h3,by rw[I];exact h4⟩
def Q3 (y:UInt8):List Value:=[u8 y]
theorem WJ:∀l:List UInt8,l.flatMap Q3=bv l
 |[]=>rfl
 |x::l=>by rw[pY,WJ l];rfl
theorem akz {n:Nat} {cs:List Value} {x:DataW fP×List MemPlace} (h:DataW.trod enc Tryz.prog W 0 (fun _=>true) true n 69 cs=some x) (hw:∀m∈x.1.weights Tryz.prog 69,m<=reachBytes):
  ∃(v:Value) (l:List UInt8),cs=[v]/\Rd W v l.length 1 (bv l)/\l.length<=reachBytes:=by
 rcases DataW.trod_slice Tryz.underlying69 h with⟨I,_⟩|⟨a,len,cap,elems,rest,m,_,I,_⟩
 ·exact⟨_,[],I,⟨none,0,rfl,aZ _,by omega,rfl,fun h=>by simp at h⟩,by decide⟩
 ·subst I
  obtain⟨l,I,H,_,h4⟩:=Il (f:=Q3) (Q:=fun _=>True) (sz:=1) (bytes:=1) (d:=x.1) (ps:=x.2) Tryz.underlying69 (by kernel_rfl) (by decide) (by kernel_rfl) ⟨n,h⟩ hw (fun r n x _ h _=>by
   obtain⟨k,e,_,w⟩:=DataW.trod_int Tryz.underlying5 h;have hb:0<=k/\k<=255:=by simpa [Lit.wf,IntKind.min,IntKind.max,IntKind.signed,IntKind.bits] using w
   refine⟨UInt8.ofNat k.toNat,?_,trivial⟩;rw[e];unfold Q3 u8;rw[UInt8.toNat_ofNat_of_lt' (by show k.toNat<256;omega)]
   simp;omega)
  rw[WJ] at H;exact⟨_,l,rfl,by rw[I];exact H,by rw[I];omega⟩
structure Pz where
 v:Value
 l:List UInt8
def WK (x:Pz):List Value:=[x.v]
theorem WL:∀l:List Pz,l.flatMap WK=l.map (·.v)
 |[]=>rfl
 |x::l=>by rw[pY,WL l];rfl
theorem akA {n:Nat} {cs:List Value} {x:DataW fP×List MemPlace} (h:DataW.trod enc Tryz.prog W 0 (fun _=>true) true n 89 cs=some x) (hw:∀m∈x.1.weights Tryz.prog 89,m<=reachBytes):
  ∃(v:Value) (l9:List Value) (l:List (List UInt8)),cs=[v]/\l9.length=l.length/\Rd W v l.length 1 l9/\(∀(k:Nat) u c,l9[k]? =some u->l[k]? =some c->Rd W u c.length 1 (bv c))/\l.length*24<=reachBytes/\∀c∈l,c.length<=reachBytes:=by
 rcases DataW.trod_slice Tryz.underlying89 h with⟨I,_⟩|⟨a,len,cap,elems,rest,m,_,I,_⟩
 ·exact⟨_,[],[],I,rfl,⟨none,0,rfl,aZ _,by omega,rfl,fun h=>by simp at h⟩,fun k u c hu=>(by simp at hu),by decide,fun c hc=>(by cases hc)⟩
 ·subst I
  obtain⟨l,I,H,h3,h4⟩:=Il (f:=WK) (Q:=fun x:Pz=>Rd W x.v x.l.length 1 (bv x.l)/\x.l.length<=reachBytes) (sz:=1) (bytes:=24) (d:=x.1) (ps:=x.2) Tryz.underlying89 (by kernel_rfl) (by decide) (by kernel_rfl) ⟨n,h⟩ hw (fun r n x hl h hw=>by
   obtain⟨v,l,rfl,hr⟩:=akz h hw
   exact⟨⟨v,l⟩,rfl,hr⟩)
  refine⟨_,l.map (·.v),l.map (·.l),rfl,by simp,?_,fun k u c hu hc=>?_,by rw[qa,I];exact h4,fun c hc=>?_⟩
  ·rw[<-WL,qa,I];exact H
  ·rw[kY] at hu hc;obtain⟨y,hy,rfl⟩:=Option.map_eq_some_iff.1 hu;rw[hy,Option.map_some] at hc;rw[<-ig hc];exact(h3 y (bJ hy)).1
  ·obtain⟨y,hy,rfl⟩:=rQ.1 hc;exact(h3 y hy).2
theorem agB {r X:List Value} {a p d b:Value} (h:r.length=41) (h0:(r.drop 0).take 1=[a]) (I:(r.drop 1).take 37=X) (H:(r.drop 38).take 1=[p]) (h3:(r.drop 39).take 1=[d]) (h4:(r.drop 40).take 1=[b]):r=a::(X++[p,d,b]):=by
 have e0:r=r.take 1++(r.drop 1).take 37++(r.drop 38).take 1++(r.drop 39).take 1++(r.drop 40).take 1:=by
  have s1:r=r.take 1++r.drop 1:=(rR 1 r).symm
  have s2:r.drop 1=(r.drop 1).take 37++r.drop 38:=by
   have:=(rR 37 (r.drop 1)).symm;rw[List.drop_drop] at this;exact this
  have s3:r.drop 38=(r.drop 38).take 1++r.drop 39:=by
   have:=(rR 1 (r.drop 38)).symm;rw[List.drop_drop] at this;exact this
  have s4:r.drop 39=(r.drop 39).take 1++r.drop 40:=by
   have:=(rR 1 (r.drop 39)).symm;rw[List.drop_drop] at this;exact this
  have s5:(r.drop 40).take 1=r.drop 40:=dF (by rw[yY];omega);rw[s5]
  conv=>lhs;rw[s1,s2,s3,s4]
  simp only[dX]
 rw[kz] at h0;rw[e0,h0,I,H,h3,h4];simp
theorem akG {n:Nat} {cs:List Value} {x:DataW fP×List MemPlace} (h:DataW.trod enc Tryz.prog W 0 (fun _=>true) true n 24 cs=some x) (hw:∀m∈x.1.weights Tryz.prog 24,m<=reachBytes):
  ∃(v:Value) (l:List mI),cs=[v]/\Rd W v l.length 41 (l.flatMap kg)/\(∀y∈l,y.Ok W)/\l.length*8<=reachBytes:=by
 have c1:Tryz.prog.cellsOf 3=1:=by kernel_rfl
 have c2:Tryz.prog.cellsOf 78=37:=by kernel_rfl
 have c3:Tryz.prog.cellsOf 88=1:=by kernel_rfl
 have c4:Tryz.prog.cellsOf 89=1:=by kernel_rfl
 have c5:Tryz.prog.cellsOf 4=1:=by kernel_rfl
 rcases DataW.trod_slice Tryz.underlying24 h with⟨I,_⟩|⟨a,len,cap,elems,rest,m,_,I,_⟩
 ·exact⟨_,[],I,⟨none,0,rfl,aZ _,by omega,rfl,fun h=>by simp at h⟩,fun _ h=>(by cases h),by decide⟩
 ·subst I
  obtain⟨l,I,H,h3,h4⟩:=Il (f:=kg) (Q:=mI.Ok W) (sz:=41) (bytes:=360) (d:=x.1) (ps:=x.2) Tryz.underlying24 (by kernel_rfl) (by decide) (by kernel_rfl) ⟨n,h⟩ hw (fun r n x hl h hw=>by
   obtain⟨xs,m,_,V,_,hlen,hf⟩:=DataW.trod_struct Tryz.underlying91 h;have hlen:xs.length=5:=hlen;rw[V] at hw;have f0:DataW.trod enc Tryz.prog W 0 (fun _=>true) true m 3 ((r.drop 0).take (Tryz.prog.cellsOf 3))=xs[0]? :=hf 0 _ rfl
   have f1:DataW.trod enc Tryz.prog W 0 (fun _=>true) true m 78 ((r.drop 1).take (Tryz.prog.cellsOf 78))=xs[1]? :=hf 1 _ rfl
   have f2:DataW.trod enc Tryz.prog W 0 (fun _=>true) true m 88 ((r.drop 38).take (Tryz.prog.cellsOf 88))=xs[2]? :=hf 2 _ rfl
   have f3:DataW.trod enc Tryz.prog W 0 (fun _=>true) true m 89 ((r.drop 39).take (Tryz.prog.cellsOf 89))=xs[3]? :=hf 3 _ rfl
   have f4:DataW.trod enc Tryz.prog W 0 (fun _=>true) true m 4 ((r.drop 40).take (Tryz.prog.cellsOf 4))=xs[4]? :=hf 4 _ rfl
   rw[c1,aR (by omega)] at f0;rw[c2,aR (by omega)] at f1;rw[c3,aR (by omega)] at f2;rw[c4,aR (by omega)] at f3;rw[c5,aR (by omega)] at f4;obtain⟨k0,e0,_,w0⟩:=DataW.trod_int Tryz.underlying3 f0;obtain⟨y,e1,hpl,hs⟩:=akB f1;obtain⟨v2,l2,e2,r2,b2,w2⟩:=akC f2 (Nw Tryz.underlying91 hw (i:=2) rfl (aR (by omega)));obtain⟨v3,l9,l3,e3,hdl,r3,b3,w3,w4⟩:=akA f3 (Nw Tryz.underlying91 hw (i:=3) rfl (aR (by omega)));obtain⟨b4,e4,_⟩:=DataW.trod_bool Tryz.underlying4 f4
   exact⟨⟨k0,y,l2,l3,b4,v2,v3,l9⟩,agB hl e0 e1 e2 e3 e4,⟨hpl,hs,Fg w0,r2,w2,b2,hdl,r3,b3,w3,w4⟩⟩)
  exact⟨_,l,rfl,by rw[I];exact H,h3,by rw[I];omega⟩
theorem akH {n:Nat} {cs:List Value} {x:DataW fP×List MemPlace} (h:DataW.trod enc Tryz.prog W 0 (fun _=>true) true n 23 cs=some x) (hw:∀m∈x.1.weights Tryz.prog 23,m<=reachBytes):
  ∃(v:Value) (l:List bM),cs=[v]/\Rd W v l.length 3 (l.flatMap rv)/\l.length*24<=reachBytes:=by
 have c1:Tryz.prog.cellsOf 3=1:=by kernel_rfl
 rcases DataW.trod_slice Tryz.underlying23 h with⟨I,_⟩|⟨a,len,cap,elems,rest,m,_,I,_⟩
 ·exact⟨_,[],I,⟨none,0,rfl,aZ _,by omega,rfl,fun h=>by simp at h⟩,by decide⟩
 ·subst I
  obtain⟨l,I,H,_,h4⟩:=Il (f:=rv) (Q:=fun _=>True) (sz:=3) (bytes:=24) (d:=x.1) (ps:=x.2) Tryz.underlying23 (by kernel_rfl) (by decide) (by kernel_rfl) ⟨n,h⟩ hw (fun r n x hl h _=>by
   obtain⟨xs,m,_,_,_,hlen,hf⟩:=DataW.trod_struct Tryz.underlying100 h;have hlen:xs.length=3:=hlen;have f0:DataW.trod enc Tryz.prog W 0 (fun _=>true) true m 3 ((r.drop 0).take (Tryz.prog.cellsOf 3))=xs[0]? :=hf 0 _ rfl
   have f1:DataW.trod enc Tryz.prog W 0 (fun _=>true) true m 3 ((r.drop 1).take (Tryz.prog.cellsOf 3))=xs[1]? :=hf 1 _ rfl
   have f2:DataW.trod enc Tryz.prog W 0 (fun _=>true) true m 3 ((r.drop 2).take (Tryz.prog.cellsOf 3))=xs[2]? :=hf 2 _ rfl
   rw[c1,aR (by omega)] at f0 f1 f2;obtain⟨k0,e0,_,_⟩:=DataW.trod_int Tryz.underlying3 f0;obtain⟨k1,e1,_,_⟩:=DataW.trod_int Tryz.underlying3 f1;obtain⟨k2,e2,_,_⟩:=DataW.trod_int Tryz.underlying3 f2
   exact⟨⟨k0,k1,k2⟩,cells3 hl e0 e1 e2,trivial⟩)
  exact⟨_,l,rfl,by rw[I];exact H,by rw[I];exact h4⟩
theorem agz {r:List Value} {a b c d e f:Value} (h:r.length=6) (h0:(r.drop 0).take 1=[a]) (I:(r.drop 1).take 1=[b]) (H:(r.drop 2).take 1=[c]) (h3:(r.drop 3).take 1=[d]) (h4:(r.drop 4).take 1=[e]) (h5:(r.drop 5).take 1=[f]):r=[a,b,c,d,e,f]:=by
 match r,h with
 |[x0,x1,x2,x3,x4,x5],_=>simp at h0 I H h3 h4 h5;subst h0;subst I;subst H;subst h3;subst h4;subst h5;rfl
theorem aaY {n:Nat} {r:List Value} {x:DataW fP×List MemPlace} (hl:r.length=6) (h:DataW.trod enc Tryz.prog W 0 (fun _=>true) true n 26 r=some x) (hw:∀m∈x.1.weights Tryz.prog 26,m<=reachBytes):∃y:ji,r=j6 y/\y.Ok W:=by
 have c1:Tryz.prog.cellsOf 3=1:=by kernel_rfl
 have c3:Tryz.prog.cellsOf 23=1:=by kernel_rfl
 have c4:Tryz.prog.cellsOf 24=1:=by kernel_rfl
 have c5:Tryz.prog.cellsOf 4=1:=by kernel_rfl
 obtain⟨xs,m,_,V,_,hlen,hf⟩:=DataW.trod_struct Tryz.underlying26 h;rw[V] at hw;have hlen:xs.length=6:=hlen;have f0:DataW.trod enc Tryz.prog W 0 (fun _=>true) true m 3 ((r.drop 0).take (Tryz.prog.cellsOf 3))=xs[0]? :=hf 0 _ rfl
 have f1:DataW.trod enc Tryz.prog W 0 (fun _=>true) true m 3 ((r.drop 1).take (Tryz.prog.cellsOf 3))=xs[1]? :=hf 1 _ rfl
 have f2:DataW.trod enc Tryz.prog W 0 (fun _=>true) true m 3 ((r.drop 2).take (Tryz.prog.cellsOf 3))=xs[2]? :=hf 2 _ rfl
 have f3:DataW.trod enc Tryz.prog W 0 (fun _=>true) true m 4 ((r.drop 3).take (Tryz.prog.cellsOf 4))=xs[3]? :=hf 3 _ rfl
 have f4:DataW.trod enc Tryz.prog W 0 (fun _=>true) true m 23 ((r.drop 4).take (Tryz.prog.cellsOf 23))=xs[4]? :=hf 4 _ rfl
 have f5:DataW.trod enc Tryz.prog W 0 (fun _=>true) true m 24 ((r.drop 5).take (Tryz.prog.cellsOf 24))=xs[5]? :=hf 5 _ rfl
 rw[c1,aR (by omega)] at f0 f1 f2;rw[c5,aR (by omega)] at f3;rw[c3,aR (by omega)] at f4;rw[c4,aR (by omega)] at f5;obtain⟨k0,e0,_,w0⟩:=DataW.trod_int Tryz.underlying3 f0;obtain⟨k1,e1,_,J⟩:=DataW.trod_int Tryz.underlying3 f1;obtain⟨k2,e2,_,w2⟩:=DataW.trod_int Tryz.underlying3 f2;obtain⟨b3,e3,_⟩:=DataW.trod_bool Tryz.underlying4 f3;obtain⟨v4,l4,e4,r4,w4⟩:=akH f4 (Nw Tryz.underlying26 hw (i:=4) rfl (aR (by omega)));obtain⟨v5,l5,e5,r5,o5,w5⟩:=akG f5 (Nw Tryz.underlying26 hw (i:=5) rfl (aR (by omega)));exact⟨⟨k0,k1,k2,b3,v4,l4,v5,l5⟩,agz hl e0 e1 e2 e3 e4 e5,⟨Fg w0,Fg J,Fg w2,r4,r5,o5,w4,w5⟩⟩
theorem akF {ao:Option Addr} {len cap:Nat} {d:DataW fP} {ps:List MemPlace}
  (h:DataW.Trod enc Tryz.prog W 0 (fun _=>true) true 22 (.slice ao len cap) d ps) (hw:∀m∈d.weights Tryz.prog 22,m<=reachBytes):
  ∃l:List ji,l.length=len/\Rd W (.slice ao len cap) len 6 (l.flatMap j6)/\∀x∈l,x.Ok W:=by
 obtain⟨l,I,H,h3,_⟩:=Il (f:=j6) (Q:=ji.Ok W) Tryz.underlying22 (sz:=6) (bytes:=80) (by kernel_rfl) (by decide) (by kernel_rfl) h hw (fun r n x hl h hw=>aaY hl h hw);exact⟨l,I,H,h3⟩
end
theorem ajo (O:Sat W w L) (l:List Int) (v:Value) (h:Rd w v l.length 1 (pv l)) (hb:l.length*8<=reachBytes):
  Calls Tryz.prog 63 #[v] w fun e w'=>∃v',e= .returned v'/\Sat W w' (Sl 3 1 v' l.length (pv l)::L):=by
 unfold reachBytes at hb;go_enter Tryz.func63,Tryz.ntmps63
 go_wp2_with (refine aU ?_;refine ap (O.kJ (E:=3) (sz:=1)) _ _ _ _ (by rfl) _ _ (by rfl) (by rfl) (bS (by rfl)) (by rfl) (by omega) (dO (by rfl)) aa (by exact .inl h) (Oj l) (by omega) (by omega) ?_;intro v' w' hS')
 go_ret;exact⟨v',rfl,by simpa using hS'⟩
theorem am3 {ps pd b:Nat} {S:aK} (O:Sat W w (bF ps pd S::L)) (hX:iH S.aB) (hb:S.sup.blocks=(b:Int)) (h0:0<b) (I:b<=1024) (hl:S.last<=15) (r p:Int):
  Calls Tryz.prog 44 #[.pointer (some ⟨ps,0,none⟩), .int .i64 r, .int .i64 p] w fun e w'=>e= .returned (.bool (C9 S b r p))/\Sat W w' (bF ps pd S::L):=by
 have HF:=Z (fun w (h:Sat W w (bF ps pd S::L))=>acf h hb h0 I);have HM:=Z (fun w (h:Sat W w (bF ps pd S::L)) r (hr:r<=60)=>aci h hX r (by omega) hl);have hfl:=JK S.U b;have mO:C9 S b r p=decide (0<=r/\r<=60/\0<=p/\p+(((r.toNat+S.last-1) / 15:Nat):Int)+4<=(((bT S.U b).length:Nat):Int)):=rfl;obtain⟨f,hf⟩:=au ((bT S.U b).length);rw[hf] at HF hfl mO;have f1:(f:Int)<=1024:=by omega
 clear hX hb h0
 by_cases c1:r<0
 ·have e1:decide (r<0)=true:=bL c1;rw[mO,bf (by omega)];clear c1 mO hf;go_enter Tryz.func44,Tryz.ntmps44;go_wp2;go_ret;exact⟨rfl,O⟩
 have e1:decide (r<0)=false:=bf c1
 by_cases c2:60<r
 ·have e2:decide (60<r)=true:=bL c2;rw[mO,bf (by omega)];clear c1 c2 mO hf;go_enter Tryz.func44,Tryz.ntmps44;go_wp2;go_ret;exact⟨rfl,O⟩
 have e2:decide (60<r)=false:=bf c2
 by_cases c3:p<0
 ·have e3:decide (p<0)=true:=bL c3;rw[mO,bf (by omega)];clear c1 c2 c3 mO hf;go_enter Tryz.func44,Tryz.ntmps44;go_wp2;go_ret;exact⟨rfl,O⟩
 have e3:decide (p<0)=false:=bf c3;obtain⟨n,rfl⟩:∃n:Nat,r=(n:Int):=⟨r.toNat,by omega⟩;rw[fu] at mO;have e5:decide (60<n)=false:=bf (by omega);have Bh:=Z (fun w (h:Sat W w (bF ps pd S::L))=>HM.F w h n (by omega));obtain⟨m,hm⟩:=au ((n+S.last-1) / 15);have m1:(m:Int)<=100:=by omega
 rw[hm] at Bh mO
 have HFB:=Z (show C9 S b (n:Int) p=decide (p<=(f:Int)-(m:Int)-4) by
  rw[mO]
  by_cases h:p<=(f:Int)-(m:Int)-4
  ·rw[bL h,bL (by omega)]
  ·rw[bf h,bf (by omega)])
 clear HM hm hf mO hfl hl I c1 c2 c3;go_enter Tryz.func44,Tryz.ntmps44
 go_wp2_with (first
  |(go_at_call 41;refine ak (HF.F _ O) ?_;clear O;intro J O)
  |(go_at_call 61;refine ak (Bh.F _ O) ?_;rintro J rfl))
 go_ret;rw[HFB.F];exact⟨rfl,O⟩
def yS (x:ji):Nat->Int
 |0=>x.recs.length
 |i+1=>IntKind.i64.wrap (yS x i+((x.sets[i]?.map (·.pieces.length)).getD 0:Nat))
def vS (s:mI):Bool:=s.data.all fun d=>decide (d.length<=200)
def uM (x:ji):Bool:=x.sets.all vS&&(decide (yS x x.sets.length<=200)&&decide (x.sets.length<=12))
def SmI (W:World) (L:List aA) (x:ji) (p1:Nat) (v4 v3:Value) (wz:World):Prop:=
 ∃i:Nat,v4= .int .i64 (i:Int)/\v3= .int .i64 (yS x i)/\i<=x.sets.length/\(∀j s,j<i->x.sets[j]? =some s->vS s=true)/\Sat W wz (Cs p1 26 (j6 x)::L)
def SmK (W:World) (L:List aA) (x:ji) (s:mI) (p1:Nat) (v5:Value) (wz:World):Prop:=
 ∃k:Nat,v5= .int .i64 (k:Int)/\k<=s.data.length/\(∀j d,j<k->s.data[j]? =some d->d.length<=200)/\Sat W wz (Cs p1 26 (j6 x)::L)
theorem am9 {x:ji} {s:mI} (hs:s∈x.sets) (h:vS s=false):uM x=false:=by
 unfold uM;rw[show x.sets.all vS=false by rw[List.all_eq_false];exact⟨s,hs,by rw[h];decide⟩];rfl
theorem aqr (x:ji) (V:x.recs.length*24<=reachBytes):∀i, -9223372036854775808<=yS x i/\yS x i<=9223372036854775807
 |0=>by unfold yS;unfold reachBytes at V;omega
 |i+1=>Fg (wf_wrap .i64 _)
theorem Ud (O:Sat W w L) (x:ji) (V:x.Ok W):
  Calls Tryz.prog 10 #[.agg (j6 x).toArray] w fun e w'=>e= .returned (.bool (uM x))/\Sat W w' L:=by
 have HX:=Z V;obtain⟨iI,gF,hlv⟩:∃ao c,x.lv= .slice ao x.recs.length c:=by obtain⟨ao,c,he,_⟩:=V.l;exact⟨ao,c,he⟩
 obtain⟨Ev,EI,hsv⟩:∃ao c,x.mD= .slice ao x.sets.length c:=by obtain⟨ao,c,he,_⟩:=V.s;exact⟨ao,c,he⟩
 have hrs:=V.s;rw[hsv] at hrs;obtain⟨_,_,he,hc1,hc2,_,h5⟩:=id hrs;obtain⟨rfl,rfl⟩:=gq he;have H5:=Z h5;have x8:=Z (fun w M (h:Sat W w M)=>hrs.old h);have HF:=Z (show ∀y∈x.sets,(kg y).length=41 from fun y hy=>aaa (V.so y hy).pl);obtain⟨n,hn⟩:=au x.sets.length;have HN:=Z hn;have G4:=Z (show(j6 x)[4]? =some (.slice iI x.recs.length gF) by rw[<-hlv];rfl);have G5:=Z (show(j6 x)[5]? =some (.slice Ev n EI) by rw[<-hn,<-hsv];rfl);have hni:(n:Int)<=9223372036854775807:=by omega
 have Sq:(x.recs.length:Int)<=9223372036854775807:=by have:=V.lw;unfold reachBytes at this;omega
 obtain⟨rl,hrl⟩:=au x.recs.length;have gB:=Z hrl;rw[hrl] at G4 Sq;obtain⟨lx,hlx⟩:=au (j6 x);have qG:=Z hlx;rw[hlx] at G4 G5 ⊢;clear V hlv hsv hrs hc1 hc2 h5 hn hrl hlx;go_enter Tryz.func10,Tryz.ntmps10
 go_wp2_with (first
  |(refine bV O ?_;clear O;intro p1 J O;rw[aS] at O)
  |(refine aH O aa G4.F ?_))
 have H0:=Z O;clear O G4;go_loopw [4,3] (fun v4 v3 wz=>SmI W L x p1 v4 v3 wz) (fun v4 _ _=>iV n v4)
 case atStart=>exact⟨0,rfl,by unfold yS;rw[gB.F],eG _,fun j s hj=>absurd hj (qd _),by rw[qG.F];exact H0.F⟩
 case round=>
  clear H0;obtain⟨i,rfl,rfl,hi,hall,O⟩:=hrel;rw[qG.F] at O;rw[HN.F] at hi;have jE:=Z hall;clear hall;obtain⟨z,hz⟩:=au (yS x i);have HZ:=Z hz;rw[hz];clear hz
  by_cases hlt:i<n
  ·have k1:(i:Int)< (n:Int):=by omega
   have ay:=Z hlt;obtain⟨pb,po,rfl,_⟩:=H5.F (by rw[HN.F];omega);obtain⟨s,hs⟩:∃s,x.sets[i]? =some s:=⟨_,aR (by rw[HN.F];omega)⟩
   have uS:=Z hs;have hsm:=bJ hs;have iK:=Z hsm;have hso:=HX.F.so s hsm;obtain⟨JM,JN,_⟩:=aab hso.pl;obtain⟨ap,cp,hpv⟩:∃ao c,s.nP= .slice ao s.pieces.length c:=by obtain⟨ao,c,he,_⟩:=hso.p;exact⟨ao,c,he⟩
   obtain⟨ad,cd,hdv⟩:∃ao c,s.uq= .slice ao s.data.length c:=by obtain⟨ao,c,he,_⟩:=hso.d;exact⟨ao,c,he⟩
   have hrd:=hso.d;rw[hdv] at hrd;obtain⟨_,_,he,hd1,hd2,_,h7⟩:=id hrd;obtain⟨rfl,rfl⟩:=gq he;obtain⟨np,fT⟩:=au s.pieces.length;obtain⟨nd,hnd⟩:=au s.data.length;have iD:=Z (show yS x (i+1)=IntKind.i64.wrap (z+(np:Int)) by rw[yS,HZ.F,hs];show IntKind.i64.wrap (z+((s.pieces.length:Nat):Int))=_;rw[fT]);have ndi:(nd:Int)<=9223372036854775807:=by omega
   have jf:=Z JM;have jW:=Z JN;rw[hpv,fT] at jf;rw[hdv,hnd] at jW;have dP:=Z hnd;have H7:=Z h7;have iB:=Z (fun w M (h:Sat W w M)=>hrd.old h);have Ga:=Z hso.b;have aeK:=Z hso.dl;have iY:=Z (x8.F _ _ O);clear hi hlt hs hsm hso JM JN hpv hdv hrd hd1 hd2 h7 fT hnd
   go_wp2_with (first
    |(refine aH O aa G5.F ?_)
    |(refine bN (fE (f:=kg) (x:=s) iY.F HF.F _ _ (by rfl) _ (by rfl) (aI (by rfl)) i 38 (by omega) uS.F jf.F (by have:=ay.F;have:=HN.F;omega)) ?_))
   have H1:=Z O;clear O iY;go_loopw [5] (fun v5 wz=>SmK W L x s p1 v5 wz) (fun v5 _=>iV nd v5)
   case atStart=>exact⟨0,rfl,eG _,fun j d hj=>absurd hj (qd _),by rw[qG.F];exact H1.F⟩
   case round=>
    clear H1;obtain⟨k,rfl,hk,zq,O⟩:=hrel;rw[qG.F] at O;rw[dP.F] at hk;have Ct:=Z zq;clear zq;have iY:=Z (x8.F _ _ O)
    by_cases hkl:k<nd
    ·have k2:(k:Int)< (nd:Int):=by omega
     have oN:=Z hkl;obtain⟨db,Gx,rfl,_⟩:=H7.F (by rw[dP.F];omega);obtain⟨d,hd⟩:∃d,s.data[k]? =some d:=⟨_,aR (by rw[dP.F];exact hkl)⟩
     obtain⟨v,hv⟩:∃v,s.l9[k]? =some v:=⟨_,aR (by rw[aeK.F,dP.F];exact hkl)⟩
     obtain⟨vc,IJ,rfl,_,hvb,_⟩:=Ga.F k v d hv hd;obtain⟨J7,hld⟩:=au d.length;rw[hld] at hv;have HV:=Z hv;have HD:=Z hd;have Vn:=Z hld;have HR2:=Z (iB.F _ _ O);have ldi:(J7:Int)<=9223372036854775807:=by omega
     clear hk hkl hd hv hld hvb
     by_cases H:200<J7
     ·have e2:(200:Int)< (J7:Int):=by omega
      have qX:=Z (am9 iK.F (show vS s=false by
       unfold vS;rw[List.all_eq_false]
       exact⟨d,bJ HD.F,by rw[Vn.F,bf (by omega)];decide⟩))
      clear H
      go_wp2_with (first
       |(refine aH O aa G5.F ?_)
       |(refine bN (fE (f:=kg) (x:=s) iY.F HF.F _ _ (by rfl) _ (by rfl) (aI (by rfl)) i 39 (by omega) uS.F jW.F (by have:=ay.F;have:=HN.F;omega)) ?_)
       |(refine bN (fF HR2.F _ _ (by rfl) _ (by rfl) (aI (by rfl)) k (by omega) HV.F (by have:=oN.F;have:=dP.F;omega)) ?_))
      go_ret;rw[qX.F];exact⟨rfl,O.drop⟩
     ·have e2:¬(200:Int)< (J7:Int):=by omega
      have H2:=Z (show J7<=200 by omega);clear H
      go_wp2_with (first
       |(refine aH O aa G5.F ?_)
       |(refine bN (fE (f:=kg) (x:=s) iY.F HF.F _ _ (by rfl) _ (by rfl) (aI (by rfl)) i 39 (by omega) uS.F jW.F (by have:=ay.F;have:=HN.F;omega)) ?_)
       |(refine bN (fF HR2.F _ _ (by rfl) _ (by rfl) (aI (by rfl)) k (by omega) HV.F (by have:=oN.F;have:=dP.F;omega)) ?_))
      exact⟨⟨k+1,by go_num,by rw[dP.F];exact oN.F,fun j c hj hc=>by
       by_cases e:j=k
       ·subst e;rw[HD.F] at hc;rw[<-ig hc,Vn.F];exact H2.F
       ·exact Ct.F j c (by omega) hc,by rw[qG.F];exact O⟩,fZ oN.F⟩
    ·obtain rfl:k=nd:=by omega
     have k2:¬(k:Int)< (k:Int):=by omega
     have bq:=Z (show vS s=true by
      unfold vS;rw[jV];intro d hd;obtain⟨j,hj⟩:=jJ hd
      exact bL (Ct.F j d (by have:=(bZ.1 hj).1;have:=dP.F;omega) hj))
     clear hk hkl
     go_wp2_with (first
      |(refine aH O aa G5.F ?_)
      |(refine bN (fE (f:=kg) (x:=s) iY.F HF.F _ _ (by rfl) _ (by rfl) (aI (by rfl)) i 39 (by omega) uS.F jW.F (by have:=ay.F;have:=HN.F;omega)) ?_))
     exact⟨⟨i+1,by go_num,by rw[iD.F,IntWalk.i64_left],by rw[HN.F];exact ay.F,fun j t hj ht=>by
      by_cases e:j=i
      ·subst e;rw[uS.F] at ht;rw[<-ig ht];exact bq.F
      ·exact jE.F j t (by omega) ht,by rw[qG.F];exact O⟩,fZ ay.F⟩
  ·obtain rfl:i=n:=by omega
   have k1:¬(i:Int)< (i:Int):=by omega
   have nH:=Z (show x.sets.all vS=true by
    rw[jV];intro s hs;obtain⟨j,hj⟩:=jJ hs
    exact jE.F j s (by have:=(bZ.1 hj).1;have:=HN.F;omega) hj)
   have HB:=Z (show uM x=(decide (z<=200)&&decide ((i:Int)<=12)) by
    unfold uM;rw[nH.F,HN.F,HZ.F,Bool.true_and];congr 1
    by_cases h:i<=12
    ·rw[bL h,bL (by omega)]
    ·rw[bf h,bf (by omega)])
   clear hlt hi
   by_cases c1:z<=200
   ·have e1:decide (z<=200)=true:=bL c1;clear c1
    go_wp2_with (refine aH O aa G5.F ?_)
    go_ret;rw[HB.F,e1];exact⟨by simp,O.drop⟩
   ·have e1:decide (z<=200)=false:=bf c1;clear c1
    go_wp2_with (refine aH O aa G5.F ?_)
    go_ret;rw[HB.F,e1];exact⟨rfl,O.drop⟩
end Go.Proofs.YtjbiihbicknemaaGreat
