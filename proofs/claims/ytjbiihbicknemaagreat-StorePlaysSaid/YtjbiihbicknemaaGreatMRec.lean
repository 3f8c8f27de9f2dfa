/-
  Part of the proof of StoreWhole.
-/
import Derived.Test.YtjbiihbicknemaaGreatMGrc
set_option linter.unusedSimpArgs false
set_option linter.unusedVariables false
set_option maxRecDepth 20000
set_option maxHeartbeats 40000000
namespace Go.Proofs.YtjbiihbicknemaaGreat
open Go.RowKit Go.Sep
variable {W w:World} {L:List aA}
attribute [local irreducible] Oper.wp wpList Calls Code.wp Sep.dR
def bI (v a b:Int):Bool:=decide (a<=v)&&decide (v<=b)
def sJ (k a b:Int):Bool:=
 if k=1 then bI a 1 5&&bI b 1 16777215 else if k=2∨k=5 then bI a 0 4096&&bI b 0 4096 else if k=3∨k=4 then bI a 0 4096&&bI b 0 7 else false
theorem gY (w:World) (v a b:Int) {r:Bool} (h:bI v a b=r):
  Calls Tryz.prog 73 #[.int .i64 v, .int .i64 a, .int .i64 b] w fun e w'=>e= .returned (.bool r)/\w=w':=by
 subst h;unfold bI
 by_cases I:a<=v
 ·by_cases H:v<=b
  ·go_enter Tryz.func73,Tryz.ntmps73;go_wp2;go_ret;exact⟨by simp[I,H],rfl⟩
  ·have H:b<v:=by omega
   go_enter Tryz.func73,Tryz.ntmps73;go_wp2;go_ret;exact⟨by simp[I];omega,rfl⟩
 ·have I:v<a:=by omega
  go_enter Tryz.func73,Tryz.ntmps73;go_wp2;go_ret;exact⟨by simp;omega,rfl⟩
theorem gI (w:World) (v a b:Int) {r:Bool} (h:bI v a b=r):
  Calls Tryz.prog 77 #[.int .i64 v, .int .i64 a, .int .i64 b] w fun e w'=>e= .returned (.bool r)/\w=w':=by
 subst h;unfold bI
 by_cases I:a<=v
 ·by_cases H:v<=b
  ·go_enter Tryz.func77,Tryz.ntmps77;go_wp2;go_ret;exact⟨by simp[I,H],rfl⟩
  ·have H:b<v:=by omega
   go_enter Tryz.func77,Tryz.ntmps77;go_wp2;go_ret;exact⟨by simp[I];omega,rfl⟩
 ·have I:v<a:=by omega
  go_enter Tryz.func77,Tryz.ntmps77;go_wp2;go_ret;exact⟨by simp;omega,rfl⟩
theorem Bz (w:World) (W:World) (L:List aA) (O:Sat W w L) (k a b:Int):
  Calls Tryz.prog 58 #[.agg #[.int .i64 k, .int .i64 a, .int .i64 b]] w fun e w'=>e= .returned (.bool (sJ k a b))/\Sat W w' L:=by
 unfold sJ
 by_cases k1:k=1
 ·subst k1;simp only[reduceIte,Int.reduceEq,false_or,or_false,or_true,true_or]
  cases ha:bI a 1 5
  ·go_enter Tryz.func58,Tryz.ntmps58
   go_wp2_with (first
    |(refine bV O ?_;clear O;intro px J O;rw[aS] at O)
    |(refine bB O ?_)
    |(go_at_call 73;refine ak (gY _ a _ _ ha) ?_;rintro J rfl))
   go_ret;exact⟨rfl,O.drop⟩
  ·cases hb:bI b 1 16777215
   all_goals
    go_enter Tryz.func58,Tryz.ntmps58
    go_wp2_with (first
     |(refine bV O ?_;clear O;intro px J O;rw[aS] at O)
     |(refine bB O ?_)
     |(go_at_call 73;refine ak (gY _ a _ _ ha) ?_;rintro J rfl)
     |(go_at_call 73;refine ak (gY _ b _ _ hb) ?_;rintro J rfl))
    go_ret;exact⟨rfl,O.drop⟩
 by_cases k2:k=2
 ·subst k2;simp only[reduceIte,Int.reduceEq,false_or,or_false,or_true,true_or]
  cases ha:bI a 0 4096
  ·go_enter Tryz.func58,Tryz.ntmps58
   go_wp2_with (first
    |(refine bV O ?_;clear O;intro px J O;rw[aS] at O)
    |(refine bB O ?_)
    |(go_at_call 73;refine ak (gY _ a _ _ ha) ?_;rintro J rfl))
   go_ret;exact⟨rfl,O.drop⟩
  ·cases hb:bI b 0 4096
   all_goals
    go_enter Tryz.func58,Tryz.ntmps58
    go_wp2_with (first
     |(refine bV O ?_;clear O;intro px J O;rw[aS] at O)
     |(refine bB O ?_)
     |(go_at_call 73;refine ak (gY _ a _ _ ha) ?_;rintro J rfl)
     |(go_at_call 73;refine ak (gY _ b _ _ hb) ?_;rintro J rfl))
    go_ret;exact⟨rfl,O.drop⟩
 by_cases k5:k=5
 ·subst k5;simp only[reduceIte,Int.reduceEq,false_or,or_false,or_true,true_or]
  cases ha:bI a 0 4096
  ·go_enter Tryz.func58,Tryz.ntmps58
   go_wp2_with (first
    |(refine bV O ?_;clear O;intro px J O;rw[aS] at O)
    |(refine bB O ?_)
    |(go_at_call 73;refine ak (gY _ a _ _ ha) ?_;rintro J rfl))
   go_ret;exact⟨rfl,O.drop⟩
  ·cases hb:bI b 0 4096
   all_goals
    go_enter Tryz.func58,Tryz.ntmps58
    go_wp2_with (first
     |(refine bV O ?_;clear O;intro px J O;rw[aS] at O)
     |(refine bB O ?_)
     |(go_at_call 73;refine ak (gY _ a _ _ ha) ?_;rintro J rfl)
     |(go_at_call 73;refine ak (gY _ b _ _ hb) ?_;rintro J rfl))
    go_ret;exact⟨rfl,O.drop⟩
 by_cases k3:k=3
 ·subst k3;simp only[reduceIte,Int.reduceEq,false_or,or_false,or_true,true_or]
  cases ha:bI a 0 4096
  ·go_enter Tryz.func58,Tryz.ntmps58
   go_wp2_with (first
    |(refine bV O ?_;clear O;intro px J O;rw[aS] at O)
    |(refine bB O ?_)
    |(go_at_call 73;refine ak (gY _ a _ _ ha) ?_;rintro J rfl))
   go_ret;exact⟨rfl,O.drop⟩
  ·cases hb:bI b 0 7
   all_goals
    go_enter Tryz.func58,Tryz.ntmps58
    go_wp2_with (first
     |(refine bV O ?_;clear O;intro px J O;rw[aS] at O)
     |(refine bB O ?_)
     |(go_at_call 73;refine ak (gY _ a _ _ ha) ?_;rintro J rfl)
     |(go_at_call 73;refine ak (gY _ b _ _ hb) ?_;rintro J rfl))
    go_ret;exact⟨rfl,O.drop⟩
 by_cases k4:k=4
 ·subst k4;simp only[reduceIte,Int.reduceEq,false_or,or_false,or_true,true_or]
  cases ha:bI a 0 4096
  ·go_enter Tryz.func58,Tryz.ntmps58
   go_wp2_with (first
    |(refine bV O ?_;clear O;intro px J O;rw[aS] at O)
    |(refine bB O ?_)
    |(go_at_call 73;refine ak (gY _ a _ _ ha) ?_;rintro J rfl))
   go_ret;exact⟨rfl,O.drop⟩
  ·cases hb:bI b 0 7
   all_goals
    go_enter Tryz.func58,Tryz.ntmps58
    go_wp2_with (first
     |(refine bV O ?_;clear O;intro px J O;rw[aS] at O)
     |(refine bB O ?_)
     |(go_at_call 73;refine ak (gY _ a _ _ ha) ?_;rintro J rfl)
     |(go_at_call 73;refine ak (gY _ b _ _ hb) ?_;rintro J rfl))
    go_ret;exact⟨rfl,O.drop⟩
 ·rw[if_neg k1,if_neg (by omega),if_neg (by omega)];have e1:(k==1)=false:=dH.2 k1;have e2:(k==2)=false:=dH.2 k2;have e3:(k==3)=false:=dH.2 k3;have e4:(k==4)=false:=dH.2 k4;have e5:(k==5)=false:=dH.2 k5;clear k1 k2 k3 k4 k5;go_enter Tryz.func58,Tryz.ntmps58
  go_wp2_with (first
   |(refine bV O ?_;clear O;intro px J O;rw[aS] at O)
   |(refine bB O ?_))
  go_ret;exact⟨rfl,O.drop⟩
theorem Dx (w:World) (W:World) (L:List aA) (O:Sat W w L) (k a b:Int):
  Calls Tryz.prog 79 #[.agg #[.int .i64 k, .int .i64 a, .int .i64 b]] w fun e w'=>e= .returned (.bool (sJ k a b))/\Sat W w' L:=by
 unfold sJ
 by_cases k1:k=1
 ·subst k1;simp only[reduceIte,Int.reduceEq,false_or,or_false,or_true,true_or]
  cases ha:bI a 1 5
  ·go_enter Tryz.func79,Tryz.ntmps79
   go_wp2_with (first
    |(refine bV O ?_;clear O;intro px J O;rw[aS] at O)
    |(refine bB O ?_)
    |(go_at_call 77;refine ak (gI _ a _ _ ha) ?_;rintro J rfl))
   go_ret;exact⟨rfl,O.drop⟩
  ·cases hb:bI b 1 16777215
   all_goals
    go_enter Tryz.func79,Tryz.ntmps79
    go_wp2_with (first
     |(refine bV O ?_;clear O;intro px J O;rw[aS] at O)
     |(refine bB O ?_)
     |(go_at_call 77;refine ak (gI _ a _ _ ha) ?_;rintro J rfl)
     |(go_at_call 77;refine ak (gI _ b _ _ hb) ?_;rintro J rfl))
    go_ret;exact⟨rfl,O.drop⟩
 by_cases k2:k=2
 ·subst k2;simp only[reduceIte,Int.reduceEq,false_or,or_false,or_true,true_or]
  cases ha:bI a 0 4096
  ·go_enter Tryz.func79,Tryz.ntmps79
   go_wp2_with (first
    |(refine bV O ?_;clear O;intro px J O;rw[aS] at O)
    |(refine bB O ?_)
    |(go_at_call 77;refine ak (gI _ a _ _ ha) ?_;rintro J rfl))
   go_ret;exact⟨rfl,O.drop⟩
  ·cases hb:bI b 0 4096
   all_goals
    go_enter Tryz.func79,Tryz.ntmps79
    go_wp2_with (first
     |(refine bV O ?_;clear O;intro px J O;rw[aS] at O)
     |(refine bB O ?_)
     |(go_at_call 77;refine ak (gI _ a _ _ ha) ?_;rintro J rfl)
     |(go_at_call 77;refine ak (gI _ b _ _ hb) ?_;rintro J rfl))
    go_ret;exact⟨rfl,O.drop⟩
 by_cases k5:k=5
 ·subst k5;simp only[reduceIte,Int.reduceEq,false_or,or_false,or_true,true_or]
  cases ha:bI a 0 4096
  ·go_enter Tryz.func79,Tryz.ntmps79
   go_wp2_with (first
    |(refine bV O ?_;clear O;intro px J O;rw[aS] at O)
    |(refine bB O ?_)
    |(go_at_call 77;refine ak (gI _ a _ _ ha) ?_;rintro J rfl))
   go_ret;exact⟨rfl,O.drop⟩
  ·cases hb:bI b 0 4096
   all_goals
    go_enter Tryz.func79,Tryz.ntmps79
    go_wp2_with (first
     |(refine bV O ?_;clear O;intro px J O;rw[aS] at O)
     |(refine bB O ?_)
     |(go_at_call 77;refine ak (gI _ a _ _ ha) ?_;rintro J rfl)
     |(go_at_call 77;refine ak (gI _ b _ _ hb) ?_;rintro J rfl))
    go_ret;exact⟨rfl,O.drop⟩
 by_cases k3:k=3
 ·subst k3;simp only[reduceIte,Int.reduceEq,false_or,or_false,or_true,true_or]
  cases ha:bI a 0 4096
  ·go_enter Tryz.func79,Tryz.ntmps79
   go_wp2_with (first
    |(refine bV O ?_;clear O;intro px J O;rw[aS] at O)
    |(refine bB O ?_)
    |(go_at_call 77;refine ak (gI _ a _ _ ha) ?_;rintro J rfl))
   go_ret;exact⟨rfl,O.drop⟩
  ·cases hb:bI b 0 7
   all_goals
    go_enter Tryz.func79,Tryz.ntmps79
    go_wp2_with (first
     |(refine bV O ?_;clear O;intro px J O;rw[aS] at O)
     |(refine bB O ?_)
     |(go_at_call 77;refine ak (gI _ a _ _ ha) ?_;rintro J rfl)
     |(go_at_call 77;refine ak (gI _ b _ _ hb) ?_;rintro J rfl))
    go_ret;exact⟨rfl,O.drop⟩
 by_cases k4:k=4
 ·subst k4;simp only[reduceIte,Int.reduceEq,false_or,or_false,or_true,true_or]
  cases ha:bI a 0 4096
  ·go_enter Tryz.func79,Tryz.ntmps79
   go_wp2_with (first
    |(refine bV O ?_;clear O;intro px J O;rw[aS] at O)
    |(refine bB O ?_)
    |(go_at_call 77;refine ak (gI _ a _ _ ha) ?_;rintro J rfl))
   go_ret;exact⟨rfl,O.drop⟩
  ·cases hb:bI b 0 7
   all_goals
    go_enter Tryz.func79,Tryz.ntmps79
    go_wp2_with (first
     |(refine bV O ?_;clear O;intro px J O;rw[aS] at O)
     |(refine bB O ?_)
     |(go_at_call 77;refine ak (gI _ a _ _ ha) ?_;rintro J rfl)
     |(go_at_call 77;refine ak (gI _ b _ _ hb) ?_;rintro J rfl))
    go_ret;exact⟨rfl,O.drop⟩
 ·rw[if_neg k1,if_neg (by omega),if_neg (by omega)];have e1:(k==1)=false:=dH.2 k1;have e2:(k==2)=false:=dH.2 k2;have e3:(k==3)=false:=dH.2 k3;have e4:(k==4)=false:=dH.2 k4;have e5:(k==5)=false:=dH.2 k5;clear k1 k2 k3 k4 k5;go_enter Tryz.func79,Tryz.ntmps79
  go_wp2_with (first
   |(refine bV O ?_;clear O;intro px J O;rw[aS] at O)
   |(refine bB O ?_))
  go_ret;exact⟨rfl,O.drop⟩
open Go.Sep
structure bM where
 k:Int
 a:Int
 b:Int
instance:DecidableEq bM:=fun x y=>if h:x.k=y.k/\x.a=y.a/\x.b=y.b then isTrue (by cases x;cases y;simp_all) else isFalse (fun e=>by subst e;exact h ⟨rfl,rfl,rfl⟩)
def rv (x:bM):List Value:=[.int .i64 x.k, .int .i64 x.a, .int .i64 x.b]
theorem wH (l:List bM):∀x∈l,(rv x).length=3:=fun _ _=>rfl
theorem xI (x:bM):∀u∈rv x,u.oneCell'=true:=fun u hu=>by
 simp only[rv,oK,nE,or_false] at hu
 rcases hu with rfl|rfl|rfl<;>rfl
theorem TV (l:List bM):∀u∈l.flatMap rv,u.oneCell'=true:=fun u hu=>by
 obtain⟨x,_,hu⟩:=mE.1 hu;exact xI x u hu
def nodes (l:List bM):Nat:=(l.filter fun x=>x.k==1).length
theorem alQ (O:Sat W w L) (l:List bM) (v:Value) (h:Rd w v l.length 3 (l.flatMap rv)) (hb:l.length<=1000000):
  Calls Tryz.prog 20 #[v] w fun e w'=>∃v',e= .returned v'/\Sat W w' (Tb 100 3 rv v' l::L):=by
 go_enter Tryz.func20,Tryz.ntmps20
 go_wp2_with (refine aU ?_;refine qJ (f:=rv) (xs:=[]) (O.jb (E:=100) (sz:=3)) _ _ _ _ (by rfl) _ _ (by rfl) (by rfl) (bS (by rfl)) (by rfl) (by decide) (dO (by rfl)) aa l (wH l) (by exact .inl h) (TV l) (by simp;omega) (by simp;omega) ?_;intro v' J hS1;clear O;have O:=hS1;clear hS1;dsimp only[aD,iP] at O)
 go_ret;exact⟨_,rfl,O⟩
noncomputable def Gr.appG (G:Gr) (k a b:Int):Gr:=
 if sJ k a b=true then(if k=1 then G.pF a b else if k=2 then G.oZ a b else if k=3 then G.uD a b else if k=4 then G.uo a b else G.sF a b) else G
noncomputable def Gr.jY (G:Gr) (k a b:Int):Int:=
 if sJ k a b=true then(if k=1 then G.ry a b else if k=2 then G.j5 a b else if k=3 then mZ G a b else if k=4 then mZ G a b else vz G a b) else 1
theorem aaV {k a b:Int} (h:sJ k a b=true):k=1∨k=2∨k=3∨k=4∨k=5:=by
 unfold sJ at h
 split at h
 ·omega
 ·split at h
  ·omega
  ·split at h
   ·omega
   ·cases h
theorem Gr.WA {G:Gr} (hG:G.Ok) (hel:G.E.length<1000000) (k a b:Int):(G.appG k a b).Ok:=by
 unfold Gr.appG
 split
 ·split
  ·exact Gr.afX hG _ _
  ·split
   ·exact Gr.aho hG _ _ hel
   ·split
    ·exact Gr.aj4 hG _ _
    ·split
     ·exact Gr.agG hG _ _
     ·exact Gr.ajV hG _ _
 ·exact hG
theorem Gr.Wz (G:Gr) (k a b:Int):(G.appG k a b).E.length<=G.E.length+1:=by
 unfold Gr.appG
 split
 ·split
  ·unfold Gr.pF;split<;>simp[Gr.plus]
  ·split
   ·exact Gr.ahn _ _ _
   ·split
    ·unfold Gr.uD;split<;>simp[Gr.rJ]
    ·split
     ·unfold Gr.uo;split<;>simp[Gr.rJ]
     ·unfold Gr.sF;split<;>simp[Gr.rJ]
 ·omega
theorem af9 {p:Nat} {G:Gr} (O:Sat W w (dQ p G::L)) (hG:G.Ok) (k a b:Int):
  Calls Tryz.prog 103 #[.pointer (some ⟨p,0,none⟩), .agg #[.int .i64 k, .int .i64 a, .int .i64 b]] w fun e w'=>e= .returned (.int .i64 (G.jY k a b))/\Sat W w' (dQ p (G.appG k a b)::L):=by
 cases hok:sJ k a b with
 |false=>
  have bq:=Z hok;have HE:=Z (show G.jY k a b=1 by unfold Gr.jY;rw[hok];rfl);have HG2:=Z (show G.appG k a b=G by unfold Gr.appG;rw[hok];rfl);rw[HE.F,HG2.F];clear hok;go_enter Tryz.func103,Tryz.ntmps103
  go_wp2_with (first
   |(refine bV O ?_;clear O;intro px J O;rw[aS] at O)
   |(refine dm O aa ([.int .i64 k, .int .i64 a, .int .i64 b]) ?_)
   |(refine bB O ?_)
   |(go_at_call 58;refine(Bz _ W _ O k a b).mono ?_;rintro e J ⟨rfl,hS1⟩;rw[bq.F];clear O;have O:=hS1;clear hS1))
  go_ret;exact⟨rfl,O.drop⟩
 |true=>
  rcases aaV hok with rfl|rfl|rfl|rfl|rfl
  ·have bq:=Z hok;have HE:=Z (show G.jY 1 a b=G.ry a b by unfold Gr.jY;rw[hok];rfl);have HG2:=Z (show G.appG 1 a b=G.pF a b by unfold Gr.appG;rw[hok];rfl);rw[HE.F,HG2.F];clear hok;obtain⟨G2,hG2⟩:=au (G.pF a b);obtain⟨E,hE⟩:=au (G.ry a b);obtain⟨gP,hI⟩:=au (G.ui a b)
   have HP:=Z (fun w L (h:Sat W w (dQ p G::L))=>(show Calls Tryz.prog 126 #[.pointer (some ⟨p,0,none⟩), .int .i64 a, .int .i64 b] w fun e w'=>e= .returned (.tuple #[.int .i64 gP, .int .i64 E])/\Sat W w' (dQ p G2::L) by
    have:=afZ h hG a b;rw[hG2,hE,hI] at this
    exact this))
   rw[hG2,hE];clear hG2 hE hI;go_enter Tryz.func103,Tryz.ntmps103
   go_wp2_with (first
    |(refine bV O ?_;clear O;intro px J O;rw[aS] at O)
    |(refine dm O aa ([.int .i64 1, .int .i64 a, .int .i64 b]) ?_)
    |(refine bB O ?_)
    |(go_at_call 58;refine(Bz _ W _ O 1 a b).mono ?_;rintro e J ⟨rfl,hS1⟩;rw[bq.F];clear O;have O:=hS1;clear hS1)
    |(go_at_call 126;refine ak (Calls.uX O (k:=1) rfl (fun hF=>HP.F _ _ hF)) ?_;clear O;intro J O;dsimp only[aD,aN] at O))
   go_ret;exact⟨rfl,O.drop⟩
  ·have bq:=Z hok;have HE:=Z (show G.jY 2 a b=G.j5 a b by unfold Gr.jY;rw[hok];rfl);have HG2:=Z (show G.appG 2 a b=G.oZ a b by unfold Gr.appG;rw[hok];rfl);rw[HE.F,HG2.F];clear hok;obtain⟨G2,hG2⟩:=au (G.oZ a b);obtain⟨E,hE⟩:=au (G.j5 a b)
   have HP:=Z (fun w L (h:Sat W w (dQ p G::L))=>(show Calls Tryz.prog 127 #[.pointer (some ⟨p,0,none⟩), .int .i64 a, .int .i64 b] w fun e w'=>e= .returned (.int .i64 E)/\Sat W w' (dQ p G2::L) by
    have:=ahp h hG a b;rw[hG2,hE] at this
    exact this))
   rw[hG2,hE];clear hG2 hE;go_enter Tryz.func103,Tryz.ntmps103
   go_wp2_with (first
    |(refine bV O ?_;clear O;intro px J O;rw[aS] at O)
    |(refine dm O aa ([.int .i64 2, .int .i64 a, .int .i64 b]) ?_)
    |(refine bB O ?_)
    |(go_at_call 58;refine(Bz _ W _ O 2 a b).mono ?_;rintro e J ⟨rfl,hS1⟩;rw[bq.F];clear O;have O:=hS1;clear hS1)
    |(go_at_call 127;refine ak (Calls.uX O (k:=1) rfl (fun hF=>HP.F _ _ hF)) ?_;clear O;intro J O;dsimp only[aD,aN] at O))
   go_ret;exact⟨rfl,O.drop⟩
  ·have bq:=Z hok;have HE:=Z (show G.jY 3 a b=mZ G a b by unfold Gr.jY;rw[hok];rfl);have HG2:=Z (show G.appG 3 a b=G.uD a b by unfold Gr.appG;rw[hok];rfl);rw[HE.F,HG2.F];clear hok;obtain⟨G2,hG2⟩:=au (G.uD a b);obtain⟨E,hE⟩:=au (mZ G a b)
   have HP:=Z (fun w L (h:Sat W w (dQ p G::L))=>(show Calls Tryz.prog 128 #[.pointer (some ⟨p,0,none⟩), .int .i64 a, .int .i64 b] w fun e w'=>e= .returned (.int .i64 E)/\Sat W w' (dQ p G2::L) by
    have:=aj5 h a b hG.marks;rw[hG2,hE] at this
    exact this))
   rw[hG2,hE];clear hG2 hE;go_enter Tryz.func103,Tryz.ntmps103
   go_wp2_with (first
    |(refine bV O ?_;clear O;intro px J O;rw[aS] at O)
    |(refine dm O aa ([.int .i64 3, .int .i64 a, .int .i64 b]) ?_)
    |(refine bB O ?_)
    |(go_at_call 58;refine(Bz _ W _ O 3 a b).mono ?_;rintro e J ⟨rfl,hS1⟩;rw[bq.F];clear O;have O:=hS1;clear hS1)
    |(go_at_call 128;refine ak (Calls.uX O (k:=1) rfl (fun hF=>HP.F _ _ hF)) ?_;clear O;intro J O;dsimp only[aD,aN] at O))
   go_ret;exact⟨rfl,O.drop⟩
  ·have bq:=Z hok;have HE:=Z (show G.jY 4 a b=mZ G a b by unfold Gr.jY;rw[hok];rfl);have HG2:=Z (show G.appG 4 a b=G.uo a b by unfold Gr.appG;rw[hok];rfl);rw[HE.F,HG2.F];clear hok;obtain⟨G2,hG2⟩:=au (G.uo a b);obtain⟨E,hE⟩:=au (mZ G a b)
   have HP:=Z (fun w L (h:Sat W w (dQ p G::L))=>(show Calls Tryz.prog 129 #[.pointer (some ⟨p,0,none⟩), .int .i64 a, .int .i64 b] w fun e w'=>e= .returned (.int .i64 E)/\Sat W w' (dQ p G2::L) by
    have:=agH h a b hG.marks;rw[hG2,hE] at this
    exact this))
   rw[hG2,hE];clear hG2 hE;go_enter Tryz.func103,Tryz.ntmps103
   go_wp2_with (first
    |(refine bV O ?_;clear O;intro px J O;rw[aS] at O)
    |(refine dm O aa ([.int .i64 4, .int .i64 a, .int .i64 b]) ?_)
    |(refine bB O ?_)
    |(go_at_call 58;refine(Bz _ W _ O 4 a b).mono ?_;rintro e J ⟨rfl,hS1⟩;rw[bq.F];clear O;have O:=hS1;clear hS1)
    |(go_at_call 129;refine ak (Calls.uX O (k:=1) rfl (fun hF=>HP.F _ _ hF)) ?_;clear O;intro J O;dsimp only[aD,aN] at O))
   go_ret;exact⟨rfl,O.drop⟩
  ·have bq:=Z hok;have HE:=Z (show G.jY 5 a b=vz G a b by unfold Gr.jY;rw[hok];rfl);have HG2:=Z (show G.appG 5 a b=G.sF a b by unfold Gr.appG;rw[hok];rfl);rw[HE.F,HG2.F];clear hok;obtain⟨G2,hG2⟩:=au (G.sF a b);obtain⟨E,hE⟩:=au (vz G a b)
   have HP:=Z (fun w L (h:Sat W w (dQ p G::L))=>(show Calls Tryz.prog 130 #[.pointer (some ⟨p,0,none⟩), .int .i64 a, .int .i64 b] w fun e w'=>e= .returned (.int .i64 E)/\Sat W w' (dQ p G2::L) by
    have:=ajW h a b (by have:=hG.len;omega);rw[hG2,hE] at this
    exact this))
   rw[hG2,hE];clear hG2 hE;go_enter Tryz.func103,Tryz.ntmps103
   go_wp2_with (first
    |(refine bV O ?_;clear O;intro px J O;rw[aS] at O)
    |(refine dm O aa ([.int .i64 5, .int .i64 a, .int .i64 b]) ?_)
    |(refine bB O ?_)
    |(go_at_call 58;refine(Bz _ W _ O 5 a b).mono ?_;rintro e J ⟨rfl,hS1⟩;rw[bq.F];clear O;have O:=hS1;clear hS1)
    |(go_at_call 130;refine ak (Calls.uX O (k:=1) rfl (fun hF=>HP.F _ _ hF)) ?_;clear O;intro J O;dsimp only[aD,aN] at O))
   go_ret;exact⟨rfl,O.drop⟩
theorem alx {p:Nat} {G:Gr} (O:Sat W w (dM p G::L)) (hG:G.Ok) (hel:G.E.length<1000000) (k a b:Int):
  Calls Tryz.prog 118 #[.pointer (some ⟨p,0,none⟩), .agg #[.int .i64 k, .int .i64 a, .int .i64 b]] w fun e w'=>e= .returned (.int .i64 (G.jY k a b))/\Sat W w' (dM p (G.appG k a b)::L):=by
 cases hok:sJ k a b with
 |false=>
  have bq:=Z hok;have HE:=Z (show G.jY k a b=1 by unfold Gr.jY;rw[hok];rfl);have HG2:=Z (show G.appG k a b=G by unfold Gr.appG;rw[hok];rfl);rw[HE.F,HG2.F];clear hok;go_enter Tryz.func118,Tryz.ntmps118
  go_wp2_with (first
   |(refine bV O ?_;clear O;intro px J O;rw[aS] at O)
   |(refine dm O aa ([.int .i64 k, .int .i64 a, .int .i64 b]) ?_)
   |(refine bB O ?_)
   |(go_at_call 79;refine(Dx _ W _ O k a b).mono ?_;rintro e J ⟨rfl,hS1⟩;rw[bq.F];clear O;have O:=hS1;clear hS1))
  go_ret;exact⟨rfl,O.drop⟩
 |true=>
  rcases aaV hok with rfl|rfl|rfl|rfl|rfl
  ·have bq:=Z hok;have HE:=Z (show G.jY 1 a b=G.ry a b by unfold Gr.jY;rw[hok];rfl);have HG2:=Z (show G.appG 1 a b=G.pF a b by unfold Gr.appG;rw[hok];rfl);rw[HE.F,HG2.F];clear hok;obtain⟨G2,hG2⟩:=au (G.pF a b);obtain⟨E,hE⟩:=au (G.ry a b);obtain⟨gP,hI⟩:=au (G.ui a b)
   have HP:=Z (fun w L (h:Sat W w (dM p G::L))=>(show Calls Tryz.prog 139 #[.pointer (some ⟨p,0,none⟩), .int .i64 a, .int .i64 b] w fun e w'=>e= .returned (.tuple #[.int .i64 gP, .int .i64 E])/\Sat W w' (dM p G2::L) by
    have:=alv h hG a b;rw[hG2,hE,hI] at this
    exact this))
   rw[hG2,hE];clear hG2 hE hI;go_enter Tryz.func118,Tryz.ntmps118
   go_wp2_with (first
    |(refine bV O ?_;clear O;intro px J O;rw[aS] at O)
    |(refine dm O aa ([.int .i64 1, .int .i64 a, .int .i64 b]) ?_)
    |(refine bB O ?_)
    |(go_at_call 79;refine(Dx _ W _ O 1 a b).mono ?_;rintro e J ⟨rfl,hS1⟩;rw[bq.F];clear O;have O:=hS1;clear hS1)
    |(go_at_call 139;refine ak (Calls.uX O (k:=1) rfl (fun hF=>HP.F _ _ hF)) ?_;clear O;intro J O;dsimp only[aD,aN] at O))
   go_ret;exact⟨rfl,O.drop⟩
  ·have bq:=Z hok;have HE:=Z (show G.jY 2 a b=G.j5 a b by unfold Gr.jY;rw[hok];rfl);have HG2:=Z (show G.appG 2 a b=G.oZ a b by unfold Gr.appG;rw[hok];rfl);rw[HE.F,HG2.F];clear hok;obtain⟨G2,hG2⟩:=au (G.oZ a b);obtain⟨E,hE⟩:=au (G.j5 a b)
   have HP:=Z (fun w L (h:Sat W w (dM p G::L))=>(show Calls Tryz.prog 140 #[.pointer (some ⟨p,0,none⟩), .int .i64 a, .int .i64 b] w fun e w'=>e= .returned (.int .i64 E)/\Sat W w' (dM p G2::L) by
    have:=alR h hG hel a b;rw[hG2,hE] at this
    exact this))
   rw[hG2,hE];clear hG2 hE;go_enter Tryz.func118,Tryz.ntmps118
   go_wp2_with (first
    |(refine bV O ?_;clear O;intro px J O;rw[aS] at O)
    |(refine dm O aa ([.int .i64 2, .int .i64 a, .int .i64 b]) ?_)
    |(refine bB O ?_)
    |(go_at_call 79;refine(Dx _ W _ O 2 a b).mono ?_;rintro e J ⟨rfl,hS1⟩;rw[bq.F];clear O;have O:=hS1;clear hS1)
    |(go_at_call 140;refine ak (Calls.uX O (k:=1) rfl (fun hF=>HP.F _ _ hF)) ?_;clear O;intro J O;dsimp only[aD,aN] at O))
   go_ret;exact⟨rfl,O.drop⟩
  ·have bq:=Z hok;have HE:=Z (show G.jY 3 a b=mZ G a b by unfold Gr.jY;rw[hok];rfl);have HG2:=Z (show G.appG 3 a b=G.uD a b by unfold Gr.appG;rw[hok];rfl);rw[HE.F,HG2.F];clear hok;obtain⟨G2,hG2⟩:=au (G.uD a b);obtain⟨E,hE⟩:=au (mZ G a b)
   have HP:=Z (fun w L (h:Sat W w (dM p G::L))=>(show Calls Tryz.prog 141 #[.pointer (some ⟨p,0,none⟩), .int .i64 a, .int .i64 b] w fun e w'=>e= .returned (.int .i64 E)/\Sat W w' (dM p G2::L) by
    have:=amu h a b hG.marks;rw[hG2,hE] at this
    exact this))
   rw[hG2,hE];clear hG2 hE;go_enter Tryz.func118,Tryz.ntmps118
   go_wp2_with (first
    |(refine bV O ?_;clear O;intro px J O;rw[aS] at O)
    |(refine dm O aa ([.int .i64 3, .int .i64 a, .int .i64 b]) ?_)
    |(refine bB O ?_)
    |(go_at_call 79;refine(Dx _ W _ O 3 a b).mono ?_;rintro e J ⟨rfl,hS1⟩;rw[bq.F];clear O;have O:=hS1;clear hS1)
    |(go_at_call 141;refine ak (Calls.uX O (k:=1) rfl (fun hF=>HP.F _ _ hF)) ?_;clear O;intro J O;dsimp only[aD,aN] at O))
   go_ret;exact⟨rfl,O.drop⟩
  ·have bq:=Z hok;have HE:=Z (show G.jY 4 a b=mZ G a b by unfold Gr.jY;rw[hok];rfl);have HG2:=Z (show G.appG 4 a b=G.uo a b by unfold Gr.appG;rw[hok];rfl);rw[HE.F,HG2.F];clear hok;obtain⟨G2,hG2⟩:=au (G.uo a b);obtain⟨E,hE⟩:=au (mZ G a b)
   have HP:=Z (fun w L (h:Sat W w (dM p G::L))=>(show Calls Tryz.prog 142 #[.pointer (some ⟨p,0,none⟩), .int .i64 a, .int .i64 b] w fun e w'=>e= .returned (.int .i64 E)/\Sat W w' (dM p G2::L) by
    have:=alF h a b hG.marks;rw[hG2,hE] at this
    exact this))
   rw[hG2,hE];clear hG2 hE;go_enter Tryz.func118,Tryz.ntmps118
   go_wp2_with (first
    |(refine bV O ?_;clear O;intro px J O;rw[aS] at O)
    |(refine dm O aa ([.int .i64 4, .int .i64 a, .int .i64 b]) ?_)
    |(refine bB O ?_)
    |(go_at_call 79;refine(Dx _ W _ O 4 a b).mono ?_;rintro e J ⟨rfl,hS1⟩;rw[bq.F];clear O;have O:=hS1;clear hS1)
    |(go_at_call 142;refine ak (Calls.uX O (k:=1) rfl (fun hF=>HP.F _ _ hF)) ?_;clear O;intro J O;dsimp only[aD,aN] at O))
   go_ret;exact⟨rfl,O.drop⟩
  ·have bq:=Z hok;have HE:=Z (show G.jY 5 a b=vz G a b by unfold Gr.jY;rw[hok];rfl);have HG2:=Z (show G.appG 5 a b=G.sF a b by unfold Gr.appG;rw[hok];rfl);rw[HE.F,HG2.F];clear hok;obtain⟨G2,hG2⟩:=au (G.sF a b);obtain⟨E,hE⟩:=au (vz G a b)
   have HP:=Z (fun w L (h:Sat W w (dM p G::L))=>(show Calls Tryz.prog 143 #[.pointer (some ⟨p,0,none⟩), .int .i64 a, .int .i64 b] w fun e w'=>e= .returned (.int .i64 E)/\Sat W w' (dM p G2::L) by
    have:=amt h a b (by have:=hG.len;omega);rw[hG2,hE] at this
    exact this))
   rw[hG2,hE];clear hG2 hE;go_enter Tryz.func118,Tryz.ntmps118
   go_wp2_with (first
    |(refine bV O ?_;clear O;intro px J O;rw[aS] at O)
    |(refine dm O aa ([.int .i64 5, .int .i64 a, .int .i64 b]) ?_)
    |(refine bB O ?_)
    |(go_at_call 79;refine(Dx _ W _ O 5 a b).mono ?_;rintro e J ⟨rfl,hS1⟩;rw[bq.F];clear O;have O:=hS1;clear hS1)
    |(go_at_call 143;refine ak (Calls.uX O (k:=1) rfl (fun hF=>HP.F _ _ hF)) ?_;clear O;intro J O;dsimp only[aD,aN] at O))
   go_ret;exact⟨rfl,O.drop⟩
noncomputable def Gr.jl:Gr->List bM->Gr×Nat
 |G,[]=>(G,0)
 |G,x::l=>if G.jY x.k x.a x.b=0 then((Gr.jl (G.appG x.k x.a x.b) l).1,(Gr.jl (G.appG x.k x.a x.b) l).2+1) else(G.appG x.k x.a x.b,0)
theorem Gr.WE {G:Gr} {l:List bM} {i:Nat} {x:bM} (V:l[i]? =some x) (he:G.jY x.k x.a x.b=0):
  G.jl (l.drop i)=(((G.appG x.k x.a x.b).jl (l.drop (i+1))).1,((G.appG x.k x.a x.b).jl (l.drop (i+1))).2+1):=by
 obtain⟨hi,rfl⟩:=bZ.1 V;rw[List.drop_eq_getElem_cons hi,Gr.jl,if_pos he]
theorem Gr.WB {G:Gr} {l:List bM} {i:Nat} {x:bM} (V:l[i]? =some x) (he:G.jY x.k x.a x.b≠0):
  G.jl (l.drop i)=(G.appG x.k x.a x.b,0):=by
 obtain⟨hi,rfl⟩:=bZ.1 V;rw[List.drop_eq_getElem_cons hi,Gr.jl,if_neg he]
theorem YQ (O:Sat W w L) (l:List bM) (ao:Option Addr) (c:Nat) (hr:∀w,Sat W w L->Rd w (.slice ao l.length c) l.length 3 (l.flatMap rv)) (hb:l.length<=900000):
  Calls Tryz.prog 59 #[.slice ao l.length c] w fun e w'=>∃p,e= .returned (.tuple #[.pointer (some ⟨p,0,none⟩), .int .i64 ((Gr.new.jl l).2:Nat), .bool (decide ((Gr.new.jl l).2=l.length))])/\Sat W w' (dQ p (Gr.new.jl l).1::L):=by
 have HR:Hid (∀w,Sat W w L->Rd w (.slice ao l.length c) l.length 3 (l.flatMap rv)):=Z hr;obtain⟨_,_,he,hc1,hc2,_,h5⟩:=hr w O;obtain⟨rfl,rfl⟩:=gq he;clear hr;have H5:=Z h5;clear h5;have i5:(l.length:Int)<=1000000:=by omega
 obtain⟨Gl,ER⟩:=au (Gr.new.jl l);rw[ER];have fU:=Z ER;clear ER;go_enter Tryz.func59,Tryz.ntmps59
 go_wp2_with (first
  |(go_at_call 102;refine(akd O).mono ?_;clear O;rintro e J ⟨p,rfl,O⟩))
 have H0:=Z O;go_loopw [11] (fun v wz=>∃(i:Nat) (G:Gr),v= .int .i64 i/\i<=l.length/\G.Ok/\G.E.length<=i/\Gl=((G.jl (l.drop i)).1,(G.jl (l.drop i)).2+i)/\Sat W wz (dQ p G::L)) (fun v _=>l.length-(intOf v).toNat)
 case atStart=>exact⟨0,Gr.new,rfl,by omega,Gr.Ib,aZ _,fU.F.symm,H0.F⟩
 case round=>
  clear O H0;obtain⟨i,G,rfl,hi,hok,hel,hgl,O⟩:=hrel;have bq:=Z hok;have iT:=Z hel;clear hok hel
  by_cases hlt:i<l.length
  ·obtain⟨b,off,rfl,_⟩:=H5.F (by omega);obtain⟨⟨xk,xa,xb⟩,V⟩:∃x,l[i]? =some x:=⟨_,aR hlt⟩
   have j1:(i:Int)< (l.length:Int):=by omega
   have HX:=Z V;have ay:=Z hlt;have HA:=Z (fun w (L:List aA) (h:Sat W w (dQ p G::L))=>af9 h bq.F xk xa xb);have D8:=Z (Gr.WA bq.F (by have:=iT.F;omega) xk xa xb);have HE2:=Z (show(G.appG xk xa xb).E.length<=i+1 by have:=G.Wz xk xa xb;have:=iT.F;omega)
   by_cases h0:G.jY xk xa xb=0
   ·have lN:=Z (show Gl=(((G.appG xk xa xb).jl (l.drop (i+1))).1,((G.appG xk xa xb).jl (l.drop (i+1))).2+(i+1)) by
     rw[hgl,Gr.WE V h0];simp only[Prod.mk.injEq,true_and];omega)
    rw[h0] at HA;obtain⟨G2,hG2⟩:=au (G.appG xk xa xb);rw[hG2] at HA D8 HE2 lN;clear V h0 hG2 hgl hlt
    go_wp2_with (first
     |(refine bN (nz (HR.F _ O.drop) (wH l) _ _ (by rfl) _ (by rfl) (aI (by rfl)) (bz (by rfl)) i (by omega) HX.F (by omega)) ?_)
     |(refine dU O ?_;clear O;intro px J O;rw[aS] at O)
     |(refine eT (rv ⟨xk,xa,xb⟩) O aa ?_ (hv:=(xI _));clear O;intro J O;dsimp only[aD] at O)
     |(refine dm O aa (rv ⟨xk,xa,xb⟩) ?_)
     |(go_at_call 103;refine ak (Calls.uX O (k:=1) rfl (fun hF=>HA.F _ _ hF)) ?_;clear O;intro J O;dsimp only[aD,aN] at O))
    exact⟨⟨i+1,G2,by go_num,ay.F,D8.F,HE2.F,lN.F,O.drop⟩,by simp[intOf];have:=ay.F;omega⟩
   ·have lN:=Z (show Gl=(G.appG xk xa xb,i) by rw[hgl,Gr.WB V h0];simp);have Qi:=Z (show decide (i=l.length)=false by simp;omega);obtain⟨G2,hG2⟩:=au (G.appG xk xa xb);obtain⟨E,hE⟩:=au (G.jY xk xa xb);rw[hG2,hE] at HA;rw[hG2] at lN;rw[hE] at h0;have e0:(E==0)=false:=dH.2 h0;clear V hG2 hE hgl hlt D8 HE2
    go_wp2_with (first
     |(refine bN (nz (HR.F _ O.drop) (wH l) _ _ (by rfl) _ (by rfl) (aI (by rfl)) (bz (by rfl)) i (by omega) HX.F (by omega)) ?_)
     |(refine dU O ?_;clear O;intro px J O;rw[aS] at O)
     |(refine eT (rv ⟨xk,xa,xb⟩) O aa ?_ (hv:=(xI _));clear O;intro J O;dsimp only[aD] at O)
     |(refine dm O aa (rv ⟨xk,xa,xb⟩) ?_)
     |(go_at_call 103;refine ak (Calls.uX O (k:=1) rfl (fun hF=>HA.F _ _ hF)) ?_;clear O;intro J O;dsimp only[aD,aN] at O))
    go_ret3
    exact⟨p,by rw[lN.F,Qi.F];rfl,by rw[lN.F];exact O.drop⟩
  ·have lN:=Z (show Gl=(G,l.length) by
    rw[hgl,oJ (by omega)];simp[Gr.jl];omega)
   have j1:¬(i:Int)< (l.length:Int):=by omega
   clear hgl hlt;go_wp2
   go_ret3
   exact⟨p,by rw[lN.F];simp,by rw[lN.F];exact O⟩
theorem abI (O:Sat W w L) (l:List bM) (ao:Option Addr) (c:Nat) (hr:∀w,Sat W w L->Rd w (.slice ao l.length c) l.length 3 (l.flatMap rv)) (hb:l.length<=900000):
  Calls Tryz.prog 86 #[.slice ao l.length c] w fun e w'=>∃p,e= .returned (.tuple #[.pointer (some ⟨p,0,none⟩), .int .i64 ((Gr.new.jl l).2:Nat), .bool (decide ((Gr.new.jl l).2=l.length))])/\Sat W w' (dM p (Gr.new.jl l).1::L):=by
 have HR:Hid (∀w,Sat W w L->Rd w (.slice ao l.length c) l.length 3 (l.flatMap rv)):=Z hr;obtain⟨_,_,he,hc1,hc2,_,h5⟩:=hr w O;obtain⟨rfl,rfl⟩:=gq he;clear hr;have H5:=Z h5;clear h5;have i5:(l.length:Int)<=1000000:=by omega
 obtain⟨Gl,ER⟩:=au (Gr.new.jl l);rw[ER];have fU:=Z ER;clear ER;go_enter Tryz.func86,Tryz.ntmps86
 go_wp2_with (first
  |(refine bV O ?_;clear O;intro p J O;rw[aS] at O))
 have H0:Hid (Sat W _ (dM p Gr.new::L)):=Z (by
  have I:=((O.jb (α:=Nat×Nat) (f:=ev) (E:=218) (sz:=2)).jb (α:=dZ) (f:=nv) (E:=214) (sz:=6))
  exact dM.mk (G:=Gr.new) (I.re [2,0,1]))
 go_loopw [6] (fun v wz=>∃(i:Nat) (G:Gr),v= .int .i64 i/\i<=l.length/\G.Ok/\G.E.length<=i/\Gl=((G.jl (l.drop i)).1,(G.jl (l.drop i)).2+i)/\Sat W wz (dM p G::L)) (fun v _=>l.length-(intOf v).toNat)
 case atStart=>exact⟨0,Gr.new,rfl,by omega,Gr.Ib,aZ _,fU.F.symm,H0.F⟩
 case round=>
  clear O H0;obtain⟨i,G,rfl,hi,hok,hel,hgl,O⟩:=hrel;have bq:=Z hok;have iT:=Z hel;clear hok hel
  by_cases hlt:i<l.length
  ·obtain⟨b,off,rfl,_⟩:=H5.F (by omega);obtain⟨⟨xk,xa,xb⟩,V⟩:∃x,l[i]? =some x:=⟨_,aR hlt⟩
   have j1:(i:Int)< (l.length:Int):=by omega
   have HX:=Z V;have ay:=Z hlt;have HA:=Z (fun w (L:List aA) (h:Sat W w (dM p G::L))=>alx h bq.F (by have:=iT.F;omega) xk xa xb);have D8:=Z (Gr.WA bq.F (by have:=iT.F;omega) xk xa xb);have HE2:=Z (show(G.appG xk xa xb).E.length<=i+1 by have:=G.Wz xk xa xb;have:=iT.F;omega)
   by_cases h0:G.jY xk xa xb=0
   ·have lN:=Z (show Gl=(((G.appG xk xa xb).jl (l.drop (i+1))).1,((G.appG xk xa xb).jl (l.drop (i+1))).2+(i+1)) by
     rw[hgl,Gr.WE V h0];simp only[Prod.mk.injEq,true_and];omega)
    rw[h0] at HA;obtain⟨G2,hG2⟩:=au (G.appG xk xa xb);rw[hG2] at HA D8 HE2 lN;clear V h0 hG2 hgl hlt
    go_wp2_with (first
     |(refine bN (nz (HR.F _ O.drop) (wH l) _ _ (by rfl) _ (by rfl) (aI (by rfl)) (bz (by rfl)) i (by omega) HX.F (by omega)) ?_)
     |(go_at_call 118;refine ak (HA.F _ _ O) ?_;clear O;intro J O))
    exact⟨⟨i+1,G2,by go_num,ay.F,D8.F,HE2.F,lN.F,O⟩,by simp[intOf];have:=ay.F;omega⟩
   ·have lN:=Z (show Gl=(G.appG xk xa xb,i) by rw[hgl,Gr.WB V h0];simp);have Qi:=Z (show decide (i=l.length)=false by simp;omega);obtain⟨G2,hG2⟩:=au (G.appG xk xa xb);obtain⟨E,hE⟩:=au (G.jY xk xa xb);rw[hG2,hE] at HA;rw[hG2] at lN;rw[hE] at h0;have e0:(E==0)=false:=dH.2 h0;clear V hG2 hE hgl hlt D8 HE2
    go_wp2_with (first
     |(refine bN (nz (HR.F _ O.drop) (wH l) _ _ (by rfl) _ (by rfl) (aI (by rfl)) (bz (by rfl)) i (by omega) HX.F (by omega)) ?_)
     |(go_at_call 118;refine ak (HA.F _ _ O) ?_;clear O;intro J O))
    go_ret3
    exact⟨p,by rw[lN.F,Qi.F];rfl,by rw[lN.F];exact O⟩
  ·have lN:=Z (show Gl=(G,l.length) by
    rw[hgl,oJ (by omega)];simp[Gr.jl];omega)
   have j1:¬(i:Int)< (l.length:Int):=by omega
   clear hgl hlt;go_wp2
   go_ret3
   exact⟨p,by rw[lN.F];simp,by rw[lN.F];exact O⟩
end Go.Proofs.YtjbiihbicknemaaGreat
