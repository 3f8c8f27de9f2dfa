/-
  Part of the proof of StoreWhole.
-/
import Derived.Test.YtjbiihbicknemaaGreatMIng
set_option linter.unusedSimpArgs false
set_option linter.unusedVariables false
set_option maxRecDepth 20000
set_option maxHeartbeats 40000000
namespace Go.Proofs.YtjbiihbicknemaaGreat
open Go.RowKit Go.Sep
variable {W w:World} {L:List aA}
attribute [local irreducible] Oper.wp wpList Calls Code.wp Sep.dR
def qh (v:Value) (l:List (Nat×Nat)):aA:=Sl 0 1 v l.length (l.map ja)
theorem anm (l:List (Nat×Nat)):∀u∈l.map ja,u.oneCell'=true:=by
 intro u hu;obtain⟨x,_,rfl⟩:=rQ.1 hu;rfl
theorem Sat.O0 {k:Nat} {v:Value} {l:List (Nat×Nat)} (h:Sat W w L) (hk:Has L k (qh v l)):∃ao c,v= .slice ao l.length c/\l.length<=c:=by
 obtain⟨ao,c,I,H,_⟩:=h.tK (k:=k) hk;exact⟨ao,c,I,H⟩
theorem Sat.KU {k:Nat} {v:Value} {l:List (Nat×Nat)} (h:Sat W w L) (hk:Has L k (qh v l)):Rd w v l.length 1 (l.map ja):=h.dY (k:=k) hk
theorem Uf (h:Sat W w L):Sat W w (qh (.slice none 0 0) []::L):=by
 have:=h.kJ (E:=0) (sz:=1);exact this
theorem Gn {P:Program} {Q:Exit->Act->World->Prop} {W w:World} {L:List aA} {a:Act} {o:Oper} {K:Act->World->Prop} {k:Nat} {v xv:Value} {l m:List (Nat×Nat)} (O:Sat W w L) (T T2:TypeId) (x y:Operand) (ho:o.op= .call {callee:= .builtin .append,args:= #[x,y],argTypes:= #[T,T2]}) (V:a.eval x=v) (hy:a.eval y=xv)
  {e size bytes:Nat} {z:Value} (hT:lV P T=some (e,size,bytes,some z)) (hsz:size=1) (hbs:bytes=16) (hz:z.cells.size=size) (kR:rD P T2=some false)
  (hk:Has L k (qh v l)) (hr:Rd w xv m.length 1 (m.map ja)) (hb:l.length+m.length<=1000000)
  (h:∀v' w',Sat W w' (L.set k (qh v' (l++m)))->K (a.put o.dst v') w'):o.wp P a w K Q:=by
 subst hsz;subst hbs;unfold qh at hk;rw[Iy 0 e] at hk;refine ap O T T2 x y ho _ _ V hy hT hz (by decide) kR hk (m:=m.length) (.inl hr) (anm _) (by omega) (by omega) fun v' w' hS'=>h v' w' ?_
 unfold qh;rw[lC,bP,Iy 0 e];exact hS'
theorem ack (S:Nat->Bool) (b k:Nat):(nQ S b k).1.length<=k:=by
 induction k with
 |zero=>exact aZ _
 |succ k ih=>
  rw[KT];unfold DC
  split
  ·omega
  ·dsimp only
   split
   ·rw[bP];simp;omega
   ·omega
theorem anf (S:Nat->Bool) (b k:Nat):(nQ S b k).2<=k:=by
 induction k with
 |zero=>exact aZ _
 |succ k ih=>
  rw[KT];unfold DC
  split
  ·omega
  ·exact aZ _
def SpI (W:World) (L:List aA) (S:Nat->Bool) (b:Nat) (v14 v5 v6:Value) (wz:World):Prop:=
 ∃k:Nat,v14= .int .i64 (k:Int)/\k<=b+1/\v6= .int .i64 (((nQ S b k).2:Nat):Int)/\Sat W wz (qh v5 (nQ S b k).1::L)
theorem Uh (O:Sat W w L) (S:Nat->Bool) (p off c b:Nat) (hb:b<=1024) (h0:0<b) (hr:∀w L',Sat W w (L'++L)->Rd w (.slice (some ⟨p,off,none⟩) 128 c) 128 1 (bv (cO S))):
  Calls Tryz.prog 107 #[.slice (some ⟨p,off,none⟩) 128 c, .int .i64 (b:Int)] w fun e w'=>∃v,e= .returned v/\Sat W w' (qh v (spansOf S b)::L):=by
 have hbi:(b:Int)<=1024:=by omega
 have h0i:(0:Int)< (b:Int):=by omega
 have H0:=Z (Uf O);have HB:=Z hb;have HR:=Z hr;clear hr hb;go_enter Tryz.func107,Tryz.ntmps107;go_wp2;go_loopw [14,5,6] (fun v14 v5 v6 wz=>SpI W L S b v14 v5 v6 wz) (fun v14 _ _ _=>b+1-(intOf v14).toNat)
 case atStart=>exact⟨0,rfl,eG _,rfl,H0.F⟩
 case round=>
  clear O H0;obtain⟨k,rfl,hk,rfl,O⟩:=hrel;have aM:=Z (ack S b k);have hfr:=anf S b k
  by_cases hlt:k<b+1
  ·have k1:(k:Int)< (b:Int)+1:=by omega
   have k2:(k:Int)<=1024:=by omega
   have ay:=Z hlt;have HN:=Z (KT S b k);obtain⟨⟨l,fm⟩,hl⟩:∃x,nQ S b k=x:=⟨_,rfl⟩;rw[hl] at HN O aM hfr;rw[hl];dsimp only at O aM hfr ⊢
   by_cases hfree:k<b/\S k=false
   ·have HS:=Z (show nQ S b (k+1)=(l,fm) by rw[HN.F];unfold DC;rw[if_pos hfree]);have HU:=Z (fun w (h:Sat W w (qh u5 l::L))=>Ps h S p off c k (by omega) (fun w h=>HR.F w [_] h));rw[hfree.2] at HU;have e1:(k:Int)< (b:Int):=by omega
    have e2:decide ((k:Int)< (b:Int))=true:=bL e1;have e3:decide (k<b)=true:=bL hfree.1;clear hfree hlt hk hl
    go_wp2_with (go_at_call 100;refine ak (HU.F _ O) ?_;rintro J rfl)
    exact⟨⟨k+1,by go_num,ay.F,by rw[HS.F];try go_num,by rw[HS.F];exact O⟩,by have:=ay.F;simp[intOf];omega⟩
   ·have HM:=Z (fun w=>ach (a:=fm) (n:=k-fm) (by omega) w);rw[show(((k-fm:Nat)):Int)=(k:Int)-(fm:Int) by omega] at HM;have hs1:nQ S b (k+1)=(if fm<k then l++[(fm,k-fm)] else l,k+1):=by rw[HN.F];unfold DC;rw[if_neg hfree]
    have e0:(0:Int)<=(fm:Int):=by omega
    have e4:(fm:Int)<=(k:Int):=by omega
    by_cases hkb:k<b
    ·have hst:S k=true:=by
      cases hq:S k with
      |true=>rfl
      |false=>exact absurd ⟨hkb,hq⟩ hfree
     have HU:=Z (fun w (h:Sat W w (qh u5 l::L))=>Ps h S p off c k (by omega) (fun w h=>HR.F w [_] h));rw[hst] at HU;have e1:(k:Int)< (b:Int):=by omega
     have e2:decide ((k:Int)< (b:Int))=true:=bL e1;have e3:decide (k<b)=true:=bL hkb
     by_cases hf:fm<k
     ·have HS:=Z (show nQ S b (k+1)=(l++[(fm,k-fm)],k+1) by rw[hs1,if_pos hf]);rw[show decide (1<=k-fm)=true from bL (by omega),show yI (fm,k-fm)=ja (fm,k-fm) from if_pos (by show 1<=k-fm;omega)] at HM;clear hfree hlt hk hl hs1 hkb hst hf hfr
      go_wp2_with (first
       |(go_at_call 100;refine ak (HU.F _ O) ?_;rintro J rfl)
       |(go_at_call 133;refine ak (HM.F _) ?_;rintro J rfl)
       |(refine il [ja (fm,k-fm)] O ?_ (hc:=by simp[ja,Value.cells]);clear O;intro b1 J O;rw[jC rfl] at O)
       |(at_builtin;refine aU ?_;refine Gn O _ _ _ _ (by rfl) (by rfl) (by rfl) (bS (by rfl)) (by rfl) (by rfl) (by rfl) (dO (by rfl)) hz1 (m:=[(fm,k-fm)]) (by exact O.jc (sz:=1) aa (by decide) rfl) (by have:=aM.F;have:=HB.F;have:=ay.F;simp;omega) ?_;clear O;intro v2 J O;dsimp only[aD,aN] at O))
      exact⟨⟨k+1,by go_num,ay.F,by rw[HS.F];try go_num,by rw[HS.F];exact O.drop⟩,by have:=ay.F;simp[intOf];omega⟩
     ·have HS:=Z (show nQ S b (k+1)=(l,k+1) by rw[hs1,if_neg hf]);rw[show decide (1<=k-fm)=false from bf (by omega),show yI (fm,k-fm)= .complex .f64 0 0 from if_neg (by show ¬1<=k-fm;omega)] at HM;clear hfree hlt hk hl hs1 hkb hst hf hfr
      go_wp2_with (first
       |(go_at_call 100;refine ak (HU.F _ O) ?_;rintro J rfl)
       |(go_at_call 133;refine ak (HM.F _) ?_;rintro J rfl))
      exact⟨⟨k+1,by go_num,ay.F,by rw[HS.F];try go_num,by rw[HS.F];exact O⟩,by have:=ay.F;simp[intOf];omega⟩
    ·have e1:¬((k:Int)< (b:Int)):=by omega
     have e2:decide ((k:Int)< (b:Int))=false:=bf e1;have e3:decide (k<b)=false:=bf hkb
     by_cases hf:fm<k
     ·have HS:=Z (show nQ S b (k+1)=(l++[(fm,k-fm)],k+1) by rw[hs1,if_pos hf]);rw[show decide (1<=k-fm)=true from bL (by omega),show yI (fm,k-fm)=ja (fm,k-fm) from if_pos (by show 1<=k-fm;omega)] at HM;clear hfree hlt hk hl hs1 hkb hf hfr
      go_wp2_with (first
       |(go_at_call 133;refine ak (HM.F _) ?_;rintro J rfl)
       |(refine il [ja (fm,k-fm)] O ?_ (hc:=by simp[ja,Value.cells]);clear O;intro b1 J O;rw[jC rfl] at O)
       |(at_builtin;refine aU ?_;refine Gn O _ _ _ _ (by rfl) (by rfl) (by rfl) (bS (by rfl)) (by rfl) (by rfl) (by rfl) (dO (by rfl)) hz1 (m:=[(fm,k-fm)]) (by exact O.jc (sz:=1) aa (by decide) rfl) (by have:=aM.F;have:=HB.F;have:=ay.F;simp;omega) ?_;clear O;intro v2 J O;dsimp only[aD,aN] at O))
      exact⟨⟨k+1,by go_num,ay.F,by rw[HS.F];try go_num,by rw[HS.F];exact O.drop⟩,by have:=ay.F;simp[intOf];omega⟩
     ·have HS:=Z (show nQ S b (k+1)=(l,k+1) by rw[hs1,if_neg hf]);rw[show decide (1<=k-fm)=false from bf (by omega),show yI (fm,k-fm)= .complex .f64 0 0 from if_neg (by show ¬1<=k-fm;omega)] at HM;clear hfree hlt hk hl hs1 hkb hf hfr
      go_wp2_with (first
       |(go_at_call 133;refine ak (HM.F _) ?_;rintro J rfl))
      exact⟨⟨k+1,by go_num,ay.F,by rw[HS.F];try go_num,by rw[HS.F];exact O⟩,by have:=ay.F;simp[intOf];omega⟩
  ·obtain rfl:k=b+1:=by omega
   have k1:¬(((b+1:Nat):Int)< (b:Int)+1):=by omega
   clear hlt aM hfr hk;go_wp2;go_ret;exact⟨_,rfl,O⟩
open Go.Sep
theorem anL (a m k:Nat):(List.range' a m).take k=List.range' a (min m k):=by
 apply List.ext_getElem
 ·simp;omega
 ·intro i I H;simp
structure LA where
 n:Nat
 T:List (Nat×Nat)
 R:List (Nat×Nat)
def CW (n a len:Nat) (T:List (Nat×Nat)):List (Nat×Nat):=if 0<min len n then T++[(a,min len n)] else T
def MU (n a len:Nat) (R:List (Nat×Nat)):List (Nat×Nat):=if min len n<len then R++[(a+min len n,len-min len n)] else R
def Rl (p:LA) (x:Nat×Nat):LA:=⟨p.n-min x.2 p.n,CW p.n x.1 x.2 p.T,MU p.n x.1 x.2 p.R⟩
def nM (l:List (Nat×Nat)) (n k:Nat):LA:=(l.take k).foldl Rl ⟨n,[],[]⟩
theorem Xu {l:List (Nat×Nat)} {n k:Nat} {x:Nat×Nat} (h:l[k]? =some x):nM l n (k+1)=Rl (nM l n k) x:=by
 unfold nM;rw[ik,h,List.foldl_append];rfl
structure adC (l:List (Nat×Nat)) (n:Nat) (p:LA):Prop where
 t:flat p.T=(flat l).take n
 left:p.n=n-(flat l).length
 tl:p.T.length<=l.length
 rl:p.R.length<=l.length
 tp:∀x∈p.T,1<=x.2/\x.1+x.2<=1100
theorem MV (l:List (Nat×Nat)) (hl:∀x∈l,1<=x.2/\x.1+x.2<=1100) (n k:Nat) (hk:k<=l.length):adC (l.take k) n (nM l n k):=by
 induction k with
 |zero=>exact⟨by simp[nM,flat],by simp[nM,flat],by simp[nM],by simp[nM],by simp[nM]⟩
 |succ k ih=>
  have ih:=ih (by omega);obtain⟨⟨a,m⟩,V⟩:∃x,l[k]? =some x:=⟨_,aR (by omega)⟩
  have hp:=hl _ (bJ V)
  have hfl:flat (l.take (k+1))=flat (l.take k)++List.range' a m:=by
   rw[ik,V,Option.toList_some,GA,JH]
  have hll:(l.take (k+1)).length=(l.take k).length+1:=by simp;omega
  rw[Xu V];refine⟨?_,?_,?_,?_,?_⟩
  ·show flat (CW _ a m _)=_;rw[hfl,List.take_append,ih.left.symm]
   have H:(List.range' a m).take (nM l n k).n=List.range' a (min m (nM l n k).n):=by
    exact anL a m _
   rw[H,<-ih.t];unfold CW
   split
   ·rw[GA,JH]
   ·rename_i h3
    rw[show min m (nM l n k).n=0 by omega];simp
  ·show(nM l n k).n-min m (nM l n k).n=_;rw[hfl,bP,List.length_range',ih.left];omega
  ·show(CW _ a m _).length<=_;have:=ih.tl;unfold CW
   split
   ·rw[bP,dC];omega
   ·omega
  ·show(MU _ a m _).length<=_;have:=ih.rl;unfold MU
   split
   ·rw[bP,dC];omega
   ·omega
  ·show ∀x∈CW _ a m _,_;unfold CW
   split
   ·intro x V
    rcases gy.1 V with V|V
    ·exact ih.tp x V
    ·rw[eD.1 V];dsimp only at hp ⊢;omega
   ·exact ih.tp
def JA (l:List (Nat×Nat)) (n:Nat):List (Nat×Nat):=(nM l n l.length).T
theorem agY (l:List (Nat×Nat)) (hl:∀x∈l,1<=x.2/\x.1+x.2<=1100) (n:Nat):flat (JA l n)=(flat l).take n:=by
 have:=(MV l hl n l.length (aZ _)).t
 rwa [List.take_length] at this
theorem ag0 (l:List (Nat×Nat)) (hl:∀x∈l,1<=x.2/\x.1+x.2<=1100) (n:Nat):∀x∈JA l n,1<=x.2/\x.1+x.2<=1100:=
 (MV l hl n l.length (aZ _)).tp
theorem agZ (l:List (Nat×Nat)) (hl:∀x∈l,1<=x.2/\x.1+x.2<=1100) (n:Nat):(JA l n).length<=l.length:=by
 have:=(MV l hl n l.length (aZ _)).tl
 rwa [List.take_length] at this
end Go.Proofs.YtjbiihbicknemaaGreat
