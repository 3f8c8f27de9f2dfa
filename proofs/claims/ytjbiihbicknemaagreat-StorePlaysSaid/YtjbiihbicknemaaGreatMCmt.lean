/-
  Part of the proof of StoreWhole.
-/
import Derived.Test.YtjbiihbicknemaaGreatMRig
set_option linter.unusedSimpArgs false
set_option linter.unusedVariables false
set_option maxRecDepth 20000
set_option maxHeartbeats 40000000
namespace Go.Proofs.YtjbiihbicknemaaGreat
open Go.RowKit Go.Sep
variable {W w:World} {L:List aA}
theorem KA {b:Int} {l:List Int} (h:tF b l=true) {i:Nat} {p:Int} (hp:l[i]? =some p):wD l i<p/\p<b/\p<32:=by
 unfold tF at h;have:=jV.1 h i (jD.2 (bZ.1 hp).1);unfold tH at this;rw[hp] at this;simp at this;omega
theorem abg {b:Int} {l:List Int} (h:tF b l=true) {i:Nat} {p:Int} (hp:l[i]? =some p):0<=p:=by
 have I:=KA h hp
 have H: -1<=wD l i:=Oh (b:=b) (fun j hj=>by
  unfold tF at h
  exact jV.1 h j (jD.2 (by have:=(bZ.1 hp).1;omega)))
 omega
theorem TD {b:Int} {l:List Int} (h:tF b l=true):∀(d i:Nat) {p q:Int},l[i]? =some p->l[i+d+1]? =some q->p<q
 |0,i,p,q,hp,hq=>by
  have:=(KA h hq).1;rw[show i+0+1=i+1 from rfl] at this;have h3:l[i]?.getD 0<q:=this
  rw[hp] at h3;exact h3
 |d+1,i,p,q,hp,hq=>by
  have hl:=(bZ.1 hq).1;obtain⟨r,hr⟩:∃r,l[i+d+1]? =some r:=⟨_,aR (by omega)⟩
  have I:=TD h d i hp hr;have H:=(KA h hq).1;rw[show i+(d+1)+1=(i+d+1)+1 by omega] at H;have h4:l[i+d+1]?.getD 0<q:=H
  rw[hr] at h4;have h3:r<q:=h4;omega
theorem akS {b:Int} {l:List Int} (h:tF b l=true) {i j:Nat} {p:Int} (hi:l[i]? =some p) (hj:l[j]? =some p):i=j:=by
 rcases Nat.lt_trichotomy i j with hl|rfl|hl
 ·have:=TD h (j-i-1) i hi (by rw[show i+(j-i-1)+1=j by omega];exact hj);omega
 ·rfl
 ·have:=TD h (i-j-1) j hj (by rw[show j+(i-j-1)+1=i by omega];exact hi);omega
theorem abv {b:Int} {K l:List Int} {t:List Nat} (h:tF b l=true) (hK:K.length=32) (ht:l.length=t.length):∀n:Nat,n<=l.length->∀k:Nat,k<32->
  (∃(i p:Nat),i<n/\l[i]? =some (k:Int)/\t[i]? =some p/\(kU K l t n)[k]? =some (p:Int))∨((∀i:Nat,i<n->l[i]? ≠some (k:Int))/\(kU K l t n)[k]? =K[k]?)
 |0,_,k,_=> .inr ⟨fun i hi=>absurd hi (qd _),rfl⟩
 |n+1,hn,k,hk=>by
  obtain⟨q,hq⟩:∃q,l[n]? =some q:=⟨_,aR (by omega)⟩
  obtain⟨p,hp⟩:∃p,t[n]? =some p:=⟨_,aR (by omega)⟩
  have h0:=abg h hq;have I:=KA h hq;obtain⟨m,rfl⟩:∃m:Nat,q=(m:Int):=⟨q.toNat,by omega⟩;have hlen:(kU K l t n).length=32:=by rw[KF,hK]
  have e:kU K l t (n+1)=(kU K l t n).set m ((p:Nat):Int):=by rw[kU,hq,hp];rfl
  rw[e,yX]
  by_cases hm:m=k
  ·subst hm;left;refine⟨n,p,by omega,hq,hp,?_⟩;rw[if_pos rfl,if_pos (by rw[hlen];omega)]
  ·rw[if_neg hm]
   rcases abv h hK ht n (by omega) k hk with⟨i,p',H,h3,h4,h5⟩|⟨H,h3⟩
   ·exact .inl ⟨i,p',by omega,h3,h4,h5⟩
   ·refine .inr ⟨fun i hi=>?_,h3⟩
    by_cases hin:i=n
    ·subst hin;rw[hq];intro e2;have:=ig e2;omega
    ·exact H i (by omega)
theorem aki (old now:aL) {k:Nat} (h:k<32):(kS old now 32)[k]? =some (ny old now k):=by
 unfold kS;rw[Nat.sub_self,List.replicate_zero,kv,kY,List.getElem?_range h];rfl
theorem aaM {old now:aL} (hl:old.ptrs.length=32) {k:Nat} (h:k<32):ny old now k=0∨old.ptrs[k]? =some (ny old now k):=by
 unfold ny
 split
 ·right;rw[aR (by omega)];rfl
 ·exact .inl rfl
structure LB (old:aL) (t:List Nat):Prop where
 nd:t.Nodup
 gU:∀p∈t,74<=p/\p<=1023
 new:∀p∈t,(p:Int)∉old.ptrs
theorem Te {old now:aL} {pieces:List Int} {t:List Nat} (hl:old.ptrs.length=32) (hp:tF (sI now) pieces=true) (ht:pieces.length=t.length) {k:Nat} (hk:k<32):
  (∃(i p:Nat),pieces[i]? =some (k:Int)/\t[i]? =some p/\(jF old now pieces t).ptrs[k]? =some (p:Int))∨((∀i:Nat,pieces[i]? ≠some (k:Int))/\(jF old now pieces t).ptrs[k]? =some (ny old now k)):=by
 rcases abv (K:=kS old now 32) hp (Ih _ _ (aZ _)) ht pieces.length (aZ _) k hk with⟨i,p,_,H,h3,h4⟩|⟨I,H⟩
 ·exact .inl ⟨i,p,H,h3,h4⟩
 ·refine .inr ⟨fun i e=>?_,H.trans (aki old now hk)⟩;exact I i (bZ.1 e).1 e
theorem akf {old now:aL} {pieces:List Int} {t1 t2:List Nat} (ho:kD old) (h:lX old now pieces t1=true) (f1:LB old t1) (f2:LB old t2) (hlen:pieces.length=t2.length):lX old now pieces t2=true:=by
 unfold lX at h ⊢;simp only[ed,decide_eq_true_eq] at h ⊢;obtain⟨I,H,h3⟩:=h;refine⟨hlen,H,?_⟩
 by_cases h0:(jF old now pieces t2).kind=0
 ·rw[Km H h0];exact NZ Dt
 have hx1:kD (jF old now pieces t1):=Tt Dp (Km H) h3;have hA:=fun k hk=>Te (t:=t1) ho.pl H I (k:=k) hk
 have hB:=fun k hk=>Te (t:=t2) ho.pl H hlen (k:=k) hk
 have h32:∀ {k:Nat} {p:Int},(jF old now pieces t2).ptrs[k]? =some p->k<32:=fun {k p} hp=>by
  have:=(bZ.1 hp).1;rw[Dp] at this;exact this
 -- what stands at a place that no piece names is the same
 have hsame:∀k:Nat,k<32->(∀i:Nat,pieces[i]? ≠some (k:Int))->(jF old now pieces t1).ptrs[k]? =some (ny old now k):=fun k hk hn=>by
  rcases hA k hk with⟨i,p,e,_⟩|⟨_,e⟩
  ·exact absurd e (hn i)
  ·exact e
 have hpc:∀(k i:Nat),k<32->pieces[i]? =some (k:Int)->∃p:Nat,(jF old now pieces t1).ptrs[k]? =some (p:Int)/\p≠0:=fun k i hk hi=>by
  rcases hA k hk with⟨j,p,_,e2,e3⟩|⟨hn,_⟩
  ·have:=(f1.gU p (bJ e2)).1;exact⟨p,e3,by omega⟩
  ·exact absurd hi (hn i)
 refine NZ ?_;exact
  {pl:=Dp
   zero:=fun e=>absurd e h0
   kd:=hx1.kd
   sz:=hx1.sz
   lk:=hx1.lk
   ob:=hx1.ob
   Dr:=hx1.Dr
   nd:=hx1.nd
   dir:=fun hk2=>by
    obtain⟨a,b,c⟩:=hx1.dir hk2;refine⟨a,b,fun k hk=>?_⟩;have vZ:=h32 hk
    rcases hB k vZ with⟨i,p,e1,e2,e3⟩|⟨hn,e⟩
    ·have:=(f2.gU p (bJ e2)).1;rw[hk] at e3;have:=ig e3;omega
    ·rw[hk] at e;exact c k (by rw[hsame k vZ hn,<-ig e])
   pt:=fun k p hk hp0=>by
    have vZ:=h32 hk
    rcases hB k vZ with⟨i,q,e1,e2,e3⟩|⟨hn,e⟩
    ·obtain⟨r,hr,hr0⟩:=hpc k i vZ e1;have h4:=hx1.pt k r hr (by omega);have h5:=f2.gU q (bJ e2);rw[hk] at e3;have:=ig e3;exact⟨h4.1,by omega,by omega⟩
    ·rw[hk] at e;exact hx1.pt k p (by rw[hsame k vZ hn,<-ig e]) hp0
   Dj:=fun j k p hjk hj hk=>by
    by_cases hp0:p=0
    ·exact hp0
    have Sd:=h32 hj;have vZ:=h32 hk
    have hold:∀m,m<32->ny old now m=p->p∈old.ptrs:=fun m hm e=>by
     rcases aaM (now:=now) ho.pl hm with h6|h6
     ·exact absurd (e.symm.trans h6) hp0
     ·rw[e] at h6;exact bJ h6
    rcases hB j Sd with⟨i1,q1,a1,a2,a3⟩|⟨a1,a2⟩
    ·rcases hB k vZ with⟨i2,q2,b1,b2,b3⟩|⟨b1,b2⟩
     ·rw[hj] at a3;rw[hk] at b3;have e1:=ig a3;have e2:=ig b3;have e3:q1=q2:=by omega
      subst e3;have e4:=(List.getElem?_inj (bZ.1 a2).1 f2.nd).1 (a2.trans b2.symm);subst e4;have:=ig (a1.symm.trans b1);omega
     ·rw[hj] at a3;rw[hk] at b2;have:=hold k vZ (ig b2).symm;rw[ig a3] at this;exact absurd this (f2.new q1 (bJ a2))
    ·rcases hB k vZ with⟨i2,q2,b1,b2,b3⟩|⟨b1,b2⟩
     ·rw[hj] at a2;rw[hk] at b3;have:=hold j Sd (ig a2).symm;rw[ig b3] at this;exact absurd this (f2.new q2 (bJ b2))
     ·rw[hj] at a2;rw[hk] at b2
      exact hx1.Dj j k p hjk (by rw[hsame j Sd a1,<-ig a2]) (by rw[hsame k vZ b1,<-ig b2])}
def fq:List aT->Nat
 |[]=>0
 |x::l=>x.pieces.length+fq l
theorem Po (a b:List aT):fq (a++b)=fq a+fq b:=by
 induction a with
 |nil=>simp[fq]
 |cons x a ih=>simp only[dB,fq,ih];omega
def jG (l:List aT) (i:Nat):Nat:=fq (l.take i)
theorem zF {l:List aT} {i:Nat} {x:aT} (h:l[i]? =some x):jG l (i+1)=jG l i+x.pieces.length:=by
 unfold jG;rw[ik,h,Po];simp[fq]
theorem Ii {l:List aT} {i:Nat} {x:aT} (h:l[i]? =some x):jG l i+x.pieces.length<=fq l:=by
 rw[<-zF h];unfold jG
 conv=>rhs;rw[<-rR (i+1) l,Po]
 omega
theorem Fh (l:List aT):jG l l.length=fq l:=by unfold jG;rw[List.take_length]
def dW (S:aK) (l:List aT):List Nat:=(bT S.U S.sup.blocks.toNat).take (fq l)
def je (S:aK) (l:List aT) (i:Nat) (x:aT):List Nat:=((dW S l).drop (jG l i)).take x.pieces.length
def gX (S:aK) (l:List aT) (i:Nat) (x:aT):aL:=jF (pQ S x) x.ino x.pieces (je S l i x)
def qM (S:aK) (l:List aT) (i:Nat) (x:aT):List Nat:=nu (pQ S x) (gX S l i x) 32
def eP (S:aK) (l:List aT):Nat->List aL
 |0=>S.aB
 |i+1=>match l[i]? with
  |none=>eP S l i
  |some x=>(eP S l i).set x.at_.toNat (gX S l i x)
def gN (S:aK) (l:List aT):Nat->List Nat
 |0=>[]
 |i+1=>match l[i]? with
  |none=>gN S l i
  |some x=>gN S l i++qM S l i x
def jq (S:aK) (l:List aT):Nat->G2
 |0=>[]
 |i+1=>match l[i]? with
  |none=>jq S l i
  |some x=>jq S l i++[(26+x.at_,encI (gX S l i x))]
def oW (S:aK) (l:List aT) (i:Nat) (x:aT) (n:Nat):G2:=(List.range n).map fun k=>((((je S l i x)[k]?.getD 0:Nat):Int),x.data[k]?.getD [])
def iJ (S:aK) (l:List aT):Nat->G2
 |0=>[]
 |i+1=>match l[i]? with
  |none=>iJ S l i
  |some x=>iJ S l i++oW S l i x x.data.length
theorem Sz {S:aK} {l:List aT} {i:Nat} {x:aT} (h:l[i]? =some x):eP S l (i+1)=(eP S l i).set x.at_.toNat (gX S l i x):=by rw[eP,h]
theorem Nc {S:aK} {l:List aT} {i:Nat} {x:aT} (h:l[i]? =some x):gN S l (i+1)=gN S l i++qM S l i x:=by rw[gN,h]
theorem Lh {S:aK} {l:List aT} {i:Nat} {x:aT} (h:l[i]? =some x):jq S l (i+1)=jq S l i++[(26+x.at_,encI (gX S l i x))]:=by rw[jq,h]
theorem MW {S:aK} {l:List aT} {i:Nat} {x:aT} (h:l[i]? =some x):iJ S l (i+1)=iJ S l i++oW S l i x x.data.length:=by rw[iJ,h]
theorem XD (S:aK) (l:List aT) (i:Nat) (x:aT) (n:Nat):oW S l i x (n+1)=oW S l i x n++[((((je S l i x)[n]?.getD 0:Nat):Int),x.data[n]?.getD [])]:=by simp[oW,List.range_succ]
def lq (S:aK) (next:Int) (shown:Bool):di:= {S.sup with next:=next,shown:=if shown then S.sup.records else S.sup.shown}
def gm (S:aK) (l:List aT):Nat->Bool:=if l=[] then S.U else tq (mP S.U (gN S l l.length)) (dW S l)
def lu (S:aK) (l:List aT) (next:Int) (shown:Bool):G2:=jq S l l.length++(if l=[] then [] else [(1,cO (gm S l))])++[(0,encS (lq S next shown))]
def aK.zk (S:aK) (l:List aT) (next:Int) (shown:Bool):aK:= {S with sup:=lq S next shown,U:=gm S l,aB:=eP S l l.length}
def sj (S:aK) (l:List aT) (next:Int):Bool:=decide (next<S.sup.next) || (decide (16777215<next) || !jT S l)
def iQ (S:aK) (D:aG) (l:List aT) (next:Int) (shown:Bool):Int×aK×aG:=
 if sj S l next=true then(1,S,D)
 else if(bT S.U S.sup.blocks.toNat).length<fq l then(2,S,D)
 else if l=[]/\lq S next shown=S.sup then(0,S,D)
 else if(bH D (iJ S l l.length)).1≠0 then((bH D (iJ S l l.length)).1,S,(bH D (iJ S l l.length)).2)
 else((jm (bH D (iJ S l l.length)).2 (lu S l next shown)).1,(if(jm (bH D (iJ S l l.length)).2 (lu S l next shown)).1=0 then S.zk l next shown else S),(jm (bH D (iJ S l l.length)).2 (lu S l next shown)).2)
section
variable {B:List (List UInt8)} {S:aK} {gs:List Nat} {l:List aT}
theorem IG (hf:fq l<=(bT S.U S.sup.blocks.toNat).length):(dW S l).length=fq l:=by
 unfold dW;rw[jr];omega
theorem Ki (hf:fq l<=(bT S.U S.sup.blocks.toNat).length) {i:Nat} {x:aT} (V:l[i]? =some x):(je S l i x).length=x.pieces.length:=by
 unfold je;rw[jr,yY,IG hf];have:=Ii V;omega
theorem bA.AQ (h:bA B S gs) {p:Nat} (hp:p∈dW S l):74<=p/\p<B.length/\p∉dE S.aB++gs:=by
 have I:=List.mem_of_mem_take hp;rw[h.bl] at I;obtain⟨H,h3⟩:=Rz.1 I;rw[h.u] at h3;unfold iW lJ at h3;simp at h3;refine⟨by omega,H,?_⟩;rw[gy];intro hm
 rcases hm with hm|hm
 ·exact h3.2.1 hm
 ·exact h3.2.2 hm
theorem acH:(dW S l).Nodup:=(List.take_sublist _ _).nodup (Yp _ _)
theorem BR {i:Nat} {x:aT} {p:Nat} (hp:p∈je S l i x):p∈dW S l:=List.mem_of_mem_drop (List.mem_of_mem_take hp)
theorem aka {i:Nat} {x:aT} :(je S l i x).Nodup:=(List.take_sublist _ _).nodup ((List.drop_sublist _ _).nodup acH)
theorem SY {i:Nat} {x:aT} {k p:Nat} (hp:(je S l i x)[k]? =some p):(dW S l)[jG l i+k]? =some p/\k<x.pieces.length:=by
 unfold je at hp
 have hk:k<x.pieces.length:=by
  have:=(bZ.1 hp).1;rw[jr] at this;omega
 rw[List.getElem?_take_of_lt hk,List.getElem?_drop] at hp;exact⟨hp,hk⟩
theorem Kg {x:aL} {p:Nat} :p∈oo x↔ ∃q∈x.ptrs,q≠0/\q.toNat=p:=by
 unfold oo;rw[rQ]
 constructor
 ·rintro⟨q,hq,e⟩;rw[List.mem_filter,decide_eq_true_eq] at hq;exact⟨q,hq.1,hq.2,e⟩
 ·rintro⟨q,hq,h0,e⟩;exact⟨q,List.mem_filter.2 ⟨hq,bL h0⟩,e⟩
theorem NR {x:aL} (V:kD x) {p:Nat} :p∈oo x↔p≠0/\(p:Int)∈x.ptrs:=by
 rw[Kg]
 constructor
 ·rintro⟨q,hq,h0,e⟩;obtain⟨k,hk⟩:=jJ hq;have:=(V.pt k q hk h0).2.1;refine⟨by omega,?_⟩;rw[<-e,Int.toNat_of_nonneg (by omega)];exact hq
 ·rintro⟨h0,hq⟩;exact⟨(p:Int),hq,by omega,fu p⟩
theorem age {x:aL} (V:kD x):(oo x).Nodup:=by
 unfold oo
 have hp:x.ptrs.Pairwise fun a b=>a=b->a=0:=by
  rw[List.pairwise_iff_getElem];intro i j hi hj hij e;exact V.Dj i j x.ptrs[i] hij (aR hi) (by rw[aR hj,e])
 rw[List.nodup_iff_pairwise_ne,List.pairwise_map];refine(hp.filter _).imp_of_mem ?_;intro a b ha hb hab e;rw[List.mem_filter,decide_eq_true_eq] at ha hb;obtain⟨k,hk⟩:=jJ ha.1;obtain⟨m,hm⟩:=jJ hb.1;have I:=(V.pt k a hk ha.2).2.1;have H:=(V.pt m b hm hb.2).2.1;exact ha.2 (hab (by omega))
theorem bA.Aq (h:bA B S gs) {i:Nat} {y:aL} (hy:S.aB[i]? =some y) {p:Nat} (hp:p∈oo y):p∈dE S.aB:=by
 unfold dE;exact mE.2 ⟨y,bJ hy,hp⟩
theorem bA.fresh (h:bA B S gs) {i j:Nat} {x:aT} {y:aL} (hy:S.aB[j]? =some y):LB y (je S l i x) where
 nd:=aka
 gU p hp:=by
  have:=h.AQ (BR hp);have:=h.n2;omega
 new p hp hm:=by
  have I:=h.AQ (BR hp);refine I.2.2 (nC _ (h.Aq hy ((NR (h.x.ok y (bJ hy))).2 ⟨by omega,hm⟩)))
theorem akO {y:aL} {n:Nat} :LB y (iR y.ptrs n) where
 nd:=(List.take_sublist _ _).nodup (List.filter_sublist.nodup (List.nodup_range' (step:=1)))
 gU p hp:=by
  have I:=List.mem_of_mem_take hp;unfold kT at I;have H:=(List.mem_filter.1 I).1;rw[List.mem_range'_1] at H;omega
 new p hp hm:=by
  have I:=List.mem_of_mem_take hp;unfold kT at I;have H:=(List.mem_filter.1 I).2;rw[List.contains_eq_mem,bL hm] at H;exact absurd H (by decide)
end
section
variable {B:List (List UInt8)} {S:aK} {gs:List Nat} {l:List aT}
structure sO (S:aK) (l:List aT) (i:Nat) (x:aT) (n:Nat) (y:aL):Prop where
 at_:x.at_=(n:Int)
 n48:n<48
 ino:S.aB[n]? =some y
 pQ:pQ S x=y
 uH:kD y
 dl:x.data.length=x.pieces.length
 d128:∀d∈x.data,d.length=128
 next:lX y x.ino x.pieces (je S l i x)=true
theorem bA.qQ (h:bA B S gs) (hr:jT S l=true) (hf:fq l<=(bT S.U S.sup.blocks.toNat).length) {i:Nat} {x:aT} (V:l[i]? =some x):∃n y,sO S l i x n y:=by
 have I:=(zJ hr).2 i x V;unfold wI at I;simp only[ed,Bool.not_eq_true',decide_eq_false_iff_not,beq_iff_eq,jV] at I;obtain⟨⟨a1,a2⟩,a3,a4,a5,a6⟩:=I;obtain⟨n,hn⟩:∃n:Nat,x.at_=(n:Int):=⟨x.at_.toNat,by omega⟩;obtain⟨y,hy⟩:∃y,S.aB[n]? =some y:=⟨_,aR (by rw[h.x.len];omega)⟩
 have yA:=h.x.ok y (bJ hy);have hi:pQ S x=y:=by unfold pQ;rw[hn,fu,hy];rfl
 rw[hi] at a6;exact⟨n,y,{at_:=hn,n48:=by omega,ino:=hy,pQ:=hi,uH:=yA,dl:=a4,d128:=a5,next:=akf yA a6 akO (h.fresh hy) (Ki hf V).symm}⟩
theorem OE (hr:jT S l=true):∀ {i j:Nat} {x z:aT},l[i]? =some x->l[j]? =some z->x.at_=z.at_->i=j:=by
 have key:∀ {i j:Nat} {x z:aT},i<j->l[i]? =some x->l[j]? =some z->x.at_≠z.at_:=fun {i j x z} hij V hz e=>by
  have I:=(zJ hr).2 j z hz;unfold wI o8 at I;simp only[ed,Bool.not_eq_true',decide_eq_false_iff_not] at I;obtain⟨⟨a1,a2⟩,a3,_⟩:=I;rw[List.any_eq_false] at a3;refine a3 x (bJ (i:=i) (by rw[List.getElem?_take_of_lt hij];exact V)) ?_;rw[beq_iff_eq,e,Int.toNat_of_nonneg (by omega)]
 intro i j x z V hz e
 rcases Nat.lt_trichotomy i j with hl|rfl|hl
 ·exact absurd e (key hl V hz)
 ·rfl
 ·exact absurd e.symm (key hl hz V)
theorem sO.pc {i:Nat} {x:aT} {n:Nat} {y:aL} (h:sO S l i x n y):tF (sI x.ino) x.pieces=true:=by
 have:=h.next
 unfold lX at this;simp only[ed] at this;exact this.2.1
theorem sO.len {i:Nat} {x:aT} {n:Nat} {y:aL} (h:sO S l i x n y):x.pieces.length=(je S l i x).length:=by
 have:=h.next
 unfold lX at this;simp only[ed,decide_eq_true_eq] at this;exact this.1
theorem sO.NU {i:Nat} {x:aT} {n:Nat} {y:aL} (h:sO S l i x n y):gX S l i x=jF y x.ino x.pieces (je S l i x):=by unfold gX;rw[h.pQ]
theorem sO.ok {i:Nat} {x:aT} {n:Nat} {y:aL} (h:sO S l i x n y):kD (gX S l i x):=by
 have H:=h.next
 unfold lX at H;simp only[ed,decide_eq_true_eq] at H;rw[h.NU];exact Tt Dp (Km H.2.1) H.2.2
theorem sO.ptr {i:Nat} {x:aT} {n:Nat} {y:aL} (h:sO S l i x n y) {k:Nat} (hk:k<32):
  (∃(j p:Nat),x.pieces[j]? =some (k:Int)/\(je S l i x)[j]? =some p/\(gX S l i x).ptrs[k]? =some (p:Int))∨((∀j:Nat,x.pieces[j]? ≠some (k:Int))/\(gX S l i x).ptrs[k]? =some (ny y x.ino k)):=by
 rw[h.NU];exact Te h.uH.pl h.pc h.len hk
theorem sO.gone {i:Nat} {x:aT} {n:Nat} {y:aL} (h:sO S l i x n y) {p:Nat} :p∈qM S l i x↔p∈oo y/\(p:Int)∉(gX S l i x).ptrs:=by
 unfold qM nu;rw[h.pQ,dF (by rw[h.uH.pl];exact aZ _),rQ]
 constructor
 ·rintro⟨q,hq,e⟩;rw[List.mem_filter,ed,decide_eq_true_eq,Bool.not_eq_true',List.contains_eq_mem,decide_eq_false_iff_not] at hq;obtain⟨I,H,h3⟩:=hq;have hm:p∈oo y:=Kg.2 ⟨q,I,H,e⟩;refine⟨hm,?_⟩;obtain⟨k,hk⟩:=jJ I;have:=(h.uH.pt k q hk H).2.1;rw[<-e,Int.toNat_of_nonneg (by omega)];exact h3
 ·rintro⟨I,H⟩;obtain⟨h3,h4⟩:=(NR h.uH).1 I;refine⟨(p:Int),?_,fu p⟩;rw[List.mem_filter,ed,decide_eq_true_eq,Bool.not_eq_true',List.contains_eq_mem,decide_eq_false_iff_not];exact⟨h4,by omega,H⟩
theorem sO.agd {i:Nat} {x:aT} {n:Nat} {y:aL} (hok:bA B S gs) (h:sO S l i x n y) {p:Nat} :p∈oo (gX S l i x)↔p∈je S l i x∨(p∈oo y/\p∉qM S l i x):=by
 rw[NR h.ok,h.gone,NR h.uH]
 constructor
 ·rintro⟨h0,hm⟩;obtain⟨k,hk⟩:=jJ hm;have vZ:k<32:=by have:=(bZ.1 hk).1;rw[h.ok.pl] at this;exact this
  rcases h.ptr vZ with⟨j,q,_,e2,e3⟩|⟨_,e⟩
  ·rw[hk] at e3;have:=ig e3;have e4:p=q:=by omega
   subst e4;exact .inl (bJ e2)
  ·rw[hk] at e;have e2:=ig e
   rcases aaM (now:=x.ino) h.uH.pl vZ with h3|h3
   ·omega
   ·rw[<-e2] at h3;exact .inr ⟨⟨h0,bJ h3⟩,fun hg=>hg.2 hm⟩
 ·rintro(hm|⟨⟨h0,_⟩,hn⟩)
  ·have hr:=hok.AQ (BR hm);refine⟨by omega,?_⟩;obtain⟨j,hj⟩:=jJ hm;obtain⟨q,hq⟩:∃q,x.pieces[j]? =some q:=⟨_,aR (by rw[h.len];exact(bZ.1 hj).1)⟩
   have I:=abg h.pc hq;have H:=KA h.pc hq;obtain⟨k,rfl⟩:∃k:Nat,q=(k:Int):=⟨q.toNat,by omega⟩
   rcases h.ptr (k:=k) (by omega) with⟨j2,p2,e1,e2,e3⟩|⟨e1,_⟩
   ·have:=akS h.pc e1 hq;subst this;rw[hj] at e2;rw[ig e2];exact bJ e3
   ·exact absurd hq (e1 j)
  ·refine⟨h0,Classical.byContradiction fun hc=>hn ⟨⟨h0,‹_›⟩,hc⟩⟩
end
theorem aaG {α:Type} (f:α->List Nat):∀(X:List α),(∀x∈X,(f x).Nodup)->(∀(i j:Nat) x y,i<j->X[i]? =some x->X[j]? =some y->∀p,p∈f x->p∉f y)->(X.flatMap f).Nodup
 |[],_,_=>List.nodup_nil
 |x::X,I,H=>by
  rw[pY,lZ];refine⟨I x (List.mem_cons_self ..),aaG f X (fun y hy=>I y (List.mem_cons_of_mem _ hy)) (fun i j a b hij ha hb=>H (i+1) (j+1) a b (by omega) (by simpa using ha) (by simpa using hb)),?_⟩;intro p hp q hq e;subst e;obtain⟨y,hy,hpy⟩:=mE.1 hq;obtain⟨j,hj⟩:=jJ hy;exact H 0 (j+1) x y (by omega) rfl (by simpa using hj) p hp hpy
theorem M4 {α:Type} (f:α->List Nat):∀(X:List α),(X.flatMap f).Nodup->∀(i j:Nat) x y,i<j->X[i]? =some x->X[j]? =some y->∀p,p∈f x->p∉f y
 |[],_,i,j,x,y,_,V,_,_,_=>by simp at V
 |a::X,h,i,j,x,y,hij,V,hy,p,hp=>by
  rw[pY,lZ] at h;obtain⟨j',rfl⟩:∃j',j=j'+1:=⟨j-1,by omega⟩;rw[xO] at hy
  cases i with
  |zero=>
   simp at V;subst V;exact fun hq=>h.2.2 p hp p (mE.2 ⟨y,bJ hy,hq⟩) rfl
  |succ i=>
   rw[xO] at V;exact M4 f X h.2.1 i j' x y (by omega) V hy p hp
section
variable {B:List (List UInt8)} {S:aK} {gs:List Nat} {l:List aT}
theorem EZ (S:aK) (l:List aT):∀n,(eP S l n).length=S.aB.length
 |0=>rfl
 |n+1=>by
  rw[eP]
  split
  ·exact EZ S l n
  ·rw[gV,EZ S l n]
theorem J5 (h:bA B S gs) (hr:jT S l=true) (hf:fq l<=(bT S.U S.sup.blocks.toNat).length):∀n:Nat,n<=l.length->∀m:Nat,
  (∃(i:Nat) (x:aT),i<n/\l[i]? =some x/\x.at_=(m:Int)/\(eP S l n)[m]? =some (gX S l i x))∨((∀(i:Nat) x,i<n->l[i]? =some x->x.at_≠(m:Int))/\(eP S l n)[m]? =S.aB[m]?)
 |0,_,m=> .inr ⟨fun i x hi=>absurd hi (qd _),rfl⟩
 |n+1,hn,m=>by
  obtain⟨x,V⟩:∃x,l[n]? =some x:=⟨_,aR (by omega)⟩
  obtain⟨q,y,hq⟩:=h.qQ hr hf V;rw[Sz V,hq.at_,fu,yX]
  by_cases hm:q=m
  ·subst hm;rw[if_pos rfl,if_pos (by rw[EZ,h.x.len];exact hq.n48)];exact .inl ⟨n,x,by omega,V,hq.at_,rfl⟩
  ·rw[if_neg hm]
   rcases J5 h hr hf n (by omega) m with⟨i,z,I,H,h3,h4⟩|⟨I,H⟩
   ·exact .inl ⟨i,z,by omega,H,h3,h4⟩
   ·refine .inr ⟨fun i z hi hz=>?_,H⟩
    by_cases hin:i=n
    ·subst hin;rw[V] at hz;rw[<-ig hz,hq.at_];omega
    ·exact I i z (by omega) hz
theorem EO:∀n:Nat,n<=l.length->∀ {p:Nat},p∈gN S l n↔ ∃(i:Nat) (x:aT),i<n/\l[i]? =some x/\p∈qM S l i x
 |0,_,p=>by
  constructor
  ·intro h;exact absurd h nE
  ·rintro⟨i,x,hi,_⟩;exact absurd hi (qd _)
 |n+1,hn,p=>by
  obtain⟨x,V⟩:∃x,l[n]? =some x:=⟨_,aR (by omega)⟩
  rw[Nc V,gy,EO n (by omega)]
  constructor
  ·rintro(⟨i,z,I,H,h3⟩|h)
   ·exact⟨i,z,by omega,H,h3⟩
   ·exact⟨n,x,by omega,V,h⟩
  ·rintro⟨i,z,I,H,h3⟩
   by_cases hin:i=n
   ·subst hin;rw[V] at H;rw[<-ig H] at h3;exact .inr h3
   ·exact .inl ⟨i,z,by omega,H,h3⟩
theorem Lg:∀n:Nat,n<=l.length->∀ {w:Int×List UInt8},w∈jq S l n↔ ∃(i:Nat) (x:aT),i<n/\l[i]? =some x/\w=(26+x.at_,encI (gX S l i x))
 |0,_,w=>by
  constructor
  ·intro h;exact absurd h nE
  ·rintro⟨i,x,hi,_⟩;exact absurd hi (qd _)
 |n+1,hn,w=>by
  obtain⟨x,V⟩:∃x,l[n]? =some x:=⟨_,aR (by omega)⟩
  rw[Lh V,gy,Lg n (by omega),eD]
  constructor
  ·rintro(⟨i,z,I,H,h3⟩|h)
   ·exact⟨i,z,by omega,H,h3⟩
   ·exact⟨n,x,by omega,V,h⟩
  ·rintro⟨i,z,I,H,h3⟩
   by_cases hin:i=n
   ·subst hin;rw[V] at H;rw[<-ig H] at h3;exact .inr h3
   ·exact .inl ⟨i,z,by omega,H,h3⟩
theorem Le:∀n:Nat,n<=l.length->(jq S l n).length=n
 |0,_=>rfl
 |n+1,hn=>by
  obtain⟨x,V⟩:∃x,l[n]? =some x:=⟨_,aR (by omega)⟩
  rw[Lh V,bP,Le n (by omega)];rfl
theorem aaQ:∀n:Nat,n<=l.length->∀m,m<jG l n->∃(i:Nat) (x:aT),i<n/\l[i]? =some x/\jG l i<=m/\m<jG l i+x.pieces.length
 |0,_,m,h=>absurd h (qd _)
 |n+1,hn,m,h=>by
  obtain⟨x,V⟩:∃x,l[n]? =some x:=⟨_,aR (by omega)⟩
  rw[zF V] at h
  by_cases hm:m<jG l n
  ·obtain⟨i,z,I,H,h3,h4⟩:=aaQ n (by omega) m hm;exact⟨i,z,by omega,H,h3,h4⟩
  ·exact⟨n,x,by omega,V,by omega,h⟩
theorem Tj {i:Nat} :∀d,i+d<=l.length->jG l i<=jG l (i+d)
 |0,_=>aZ _
 |d+1,h=>by
  obtain⟨x,V⟩:∃x,l[i+d]? =some x:=⟨_,aR (by omega)⟩
  have:=Tj (i:=i) d (by omega);rw[show i+(d+1)=i+d+1 by omega,zF V];omega
theorem anK (hf:fq l<=(bT S.U S.sup.blocks.toNat).length) {p:Nat} (hp:p∈dW S l):∃(i:Nat) (x:aT),l[i]? =some x/\p∈je S l i x:=by
 obtain⟨m,hm⟩:=jJ hp;have uZ:=(bZ.1 hm).1;rw[IG hf,<-Fh l] at uZ;obtain⟨i,x,I,H,h3,h4⟩:=aaQ l.length (aZ _) m uZ;refine⟨i,x,H,bJ (i:=m-jG l i) ?_⟩;unfold je;rw[List.getElem?_take_of_lt (by omega),List.getElem?_drop,show jG l i+(m-jG l i)=m by omega];exact hm
theorem aj9 {i j:Nat} {x z:aT} (V:l[i]? =some x) (hz:l[j]? =some z) {p:Nat} (I:p∈je S l i x) (H:p∈je S l j z):i=j:=by
 obtain⟨a,ha⟩:=jJ I;obtain⟨b,hb⟩:=jJ H;obtain⟨ha1,ha2⟩:=SY ha;obtain⟨hb1,hb2⟩:=SY hb;have e:=(List.getElem?_inj (bZ.1 ha1).1 acH).1 (ha1.trans hb1.symm);have hil:=(bZ.1 V).1;have hjl:=(bZ.1 hz).1
 rcases Nat.lt_trichotomy i j with hl|rfl|hl
 ·have:=Tj (l:=l) (i:=i+1) (j-i-1) (by omega);rw[show i+1+(j-i-1)=j by omega,zF V] at this;omega
 ·rfl
 ·have:=Tj (l:=l) (i:=j+1) (i-j-1) (by omega);rw[show j+1+(i-j-1)=i by omega,zF hz] at this;omega
theorem bA.Dk (h:bA B S gs) (hr:jT S l=true) (hf:fq l<=(bT S.U S.sup.blocks.toNat).length) {m:Nat} {z:aL} (hz:(eP S l l.length)[m]? =some z) {p:Nat} :
  p∈oo z↔(∃(i:Nat) (x:aT),l[i]? =some x/\x.at_=(m:Int)/\p∈je S l i x)∨(∃y,S.aB[m]? =some y/\p∈oo y/\p∉gN S l l.length):=by
 have ET:=M4 oo S.aB (lZ.1 h.nd).1
 have vX:∀ {y:aL},S.aB[m]? =some y->p∈oo y->∀ {j:Nat} {x2:aT},l[j]? =some x2->p∈qM S l j x2->x2.at_=(m:Int):=fun {y} hy hp {j x2} hx2 hg=>by
  obtain⟨q2,y2,hq2⟩:=h.qQ hr hf hx2;have hp2:=(hq2.gone.1 hg).1
  rcases Nat.lt_trichotomy q2 m with e|e|e
  ·exact absurd hp (ET q2 m y2 y e hq2.ino hy p hp2)
  ·rw[hq2.at_,e]
  ·exact absurd hp2 (ET m q2 y y2 e hy hq2.ino p hp)
 rcases J5 h hr hf l.length (aZ _) m with⟨i,x,_,H,h3,h4⟩|⟨I,H⟩
 ·rw[hz] at h4;rw[ig h4];obtain⟨q,y,hq⟩:=h.qQ hr hf H;have hqm:q=m:=by have:=hq.at_;omega
  subst hqm;rw[hq.agd h]
  constructor
  ·rintro(hp|⟨hp,hn⟩)
   ·exact .inl ⟨i,x,H,h3,hp⟩
   ·refine .inr ⟨y,hq.ino,hp,fun hg=>?_⟩;obtain⟨j,x2,_,e2,e3⟩:=(EO l.length (aZ _)).1 hg;have e4:=vX hq.ino hp e2 e3;have:=OE hr e2 H (e4.trans h3.symm);subst this;rw[H] at e2;rw[<-ig e2] at e3;exact hn e3
  ·rintro(⟨j,x2,e1,e2,e3⟩|⟨y2,e1,e2,e3⟩)
   ·have:=OE hr e1 H (e2.trans h3.symm);subst this;rw[H] at e1;rw[<-ig e1] at e3;exact .inl e3
   ·rw[hq.ino] at e1;rw[<-ig e1] at e2;refine .inr ⟨e2,fun hg=>e3 ((EO l.length (aZ _)).2 ⟨i,x,(bZ.1 H).1,H,hg⟩)⟩
 ·rw[hz] at H
  constructor
  ·intro hp;refine .inr ⟨z,H.symm,hp,fun hg=>?_⟩;obtain⟨j,x2,e1,e2,e3⟩:=(EO l.length (aZ _)).1 hg;exact I j x2 e1 e2 (vX H.symm hp e2 e3)
  ·rintro(⟨j,x2,e1,e2,_⟩|⟨y2,e1,e2,_⟩)
   ·exact absurd e2 (I j x2 (bZ.1 e1).1 e1)
   ·rw[<-H] at e1;rw[ig e1];exact e2
end
section
variable {B:List (List UInt8)} {S:aK} {gs:List Nat} {l:List aT}
theorem bA.NV (h:bA B S gs) (hr:jT S l=true) (hf:fq l<=(bT S.U S.sup.blocks.toNat).length):iH (eP S l l.length) where
 len:=by rw[EZ];exact h.x.len
 ok z hz:=by
  obtain⟨m,hm⟩:=jJ hz
  rcases J5 h hr hf l.length (aZ _) m with⟨i,x,_,H,_,h4⟩|⟨_,H⟩
  ·rw[hm] at h4;obtain⟨q,y,hq⟩:=h.qQ hr hf H;rw[ig h4];exact hq.ok
  ·rw[hm] at H;exact h.x.ok z (bJ H.symm)
theorem Ro (h:bA B S gs) (hr:jT S l=true) (hf:fq l<=(bT S.U S.sup.blocks.toNat).length):∀n:Nat,n<=l.length->∀ {w:Int×List UInt8},w∈iJ S l n->∃(p:Nat),p∈dW S l/\w.1=(p:Int)/\w.2.length=128
 |0,_,w,hw=>absurd hw nE
 |n+1,hn,w,hw=>by
  obtain⟨x,V⟩:∃x,l[n]? =some x:=⟨_,aR (by omega)⟩
  rw[MW V] at hw
  rcases gy.1 hw with hw|hw
  ·exact Ro h hr hf n (by omega) hw
  ·obtain⟨q,y,hq⟩:=h.qQ hr hf V;unfold oW at hw;obtain⟨k,hk,rfl⟩:=rQ.1 hw;have hk:=jD.1 hk;have uZ:k< (je S l n x).length:=by rw[Ki hf V];rw[hq.dl] at hk;exact hk
   obtain⟨p,hp⟩:∃p,(je S l n x)[k]? =some p:=⟨_,aR uZ⟩
   obtain⟨d,hd⟩:∃d,x.data[k]? =some d:=⟨_,aR hk⟩
   refine⟨p,BR (bJ hp),?_,?_⟩
   ·dsimp only;rw[hp];rfl
   ·dsimp only;rw[hd];exact hq.d128 d (bJ hd)
theorem bA.csup (h:bA B S gs) {next:Int} (I:S.sup.next<=next) (H:next<=16777215) (shown:Bool):eQ (lq S next shown)=true:=by
 have hs:=h.sup;unfold eQ lq bI at*;simp only[ed,decide_eq_true_eq] at hs ⊢;obtain⟨⟨⟨⟨⟨⟨⟨a1,a2⟩,a3,a4⟩,a5,a6⟩,a7,a8⟩,a9⟩,Wp,xc⟩,a12,QV⟩:=hs;refine⟨⟨⟨⟨⟨⟨⟨a1,a2⟩,a3,a4⟩,a5,a6⟩,?_⟩,a9⟩,by omega,H⟩,a12,QV⟩
 cases shown
 ·exact⟨a7,a8⟩
 ·simp;omega
theorem Px {next:Int} {shown:Bool} {w:Int×List UInt8} (hw:w∈lu S l next shown):(∃(i:Nat) (x:aT),l[i]? =some x/\w=(26+x.at_,encI (gX S l i x)))∨(l≠[]/\w=(1,cO (gm S l)))∨w=(0,encS (lq S next shown)):=by
 unfold lu at hw
 rcases gy.1 hw with hw|hw
 ·rcases gy.1 hw with hw|hw
  ·obtain⟨i,x,_,H,h3⟩:=(Lg l.length (aZ _)).1 hw;exact .inl ⟨i,x,H,h3⟩
  ·split at hw
   ·exact absurd hw nE
   ·rename_i hl
    exact .inr (.inl ⟨hl,eD.1 hw⟩)
 ·exact .inr (.inr (eD.1 hw))
theorem bA.Rb (h:bA B S gs) (hr:jT S l=true) (hf:fq l<=(bT S.U S.sup.blocks.toNat).length) (next:Int) (shown:Bool):w9 B.length (lu S l next shown):=by
 have hn1:=h.n1;have h8:=(zJ hr).1;refine Tp ?_ ?_ ?_ ?_
 ·unfold lu;rw[bP];simp
 ·unfold lu;rw[bP,bP,Le l.length (aZ _),dC]
  split<;>simp<;>omega
 ·intro w hw
  rcases Px hw with⟨i,x,H,rfl⟩|⟨_,rfl⟩|rfl
  ·obtain⟨q,y,hq⟩:=h.qQ hr hf H;have e1:=hq.at_;have e2:=hq.n48;exact⟨⟨by dsimp only;omega,by dsimp only;omega,CY _ hq.ok.pl⟩, .inr (by dsimp only;omega)⟩
  ·exact⟨⟨(show(0:Int)<=1 by decide),(show(1:Int)<_ by omega),uC _⟩, .inl (show(1:Int)<2 by decide)⟩
  ·exact⟨⟨Int.le_refl _,(show(0:Int)<_ by omega),oD _⟩, .inl (show(0:Int)<2 by decide)⟩
 ·have hnd:∀n:Nat,n<=l.length->((jq S l n).map (·.1)).Nodup:=by
   intro n
   induction n with
   |zero=>intro _;exact List.nodup_nil
   |succ n ih=>
    intro hn;obtain⟨x,V⟩:∃x,l[n]? =some x:=⟨_,aR (by omega)⟩
    rw[Lh V,lC,lZ];refine⟨ih (by omega),by simp,?_⟩;intro a ha b hb e;subst e;rw[List.map_singleton,eD] at hb;obtain⟨w,hw,rfl⟩:=rQ.1 ha;obtain⟨i,z,I,H,h3⟩:=(Lg n (by omega)).1 hw;rw[h3] at hb;dsimp only at hb;have:=OE hr H V (by omega);omega
  have hlow:∀a∈(jq S l l.length).map (·.1),26<=a:=fun a ha=>by
   obtain⟨w,hw,rfl⟩:=rQ.1 ha;obtain⟨i,z,I,H,h3⟩:=(Lg l.length (aZ _)).1 hw;obtain⟨q,y,hq⟩:=h.qQ hr hf H;have:=hq.at_;rw[h3];dsimp only;omega
  unfold lu;rw[lC,lC,lZ,lZ];refine⟨⟨hnd _ (aZ _),by split<;>simp,?_⟩,by simp,?_⟩
  ·intro a ha b hb e;subst e;have:=hlow a ha
   split at hb
   ·exact absurd hb nE
   ·rw[List.map_singleton,eD] at hb;dsimp only at hb;omega
  ·intro a ha b hb e;subst e;rw[List.map_singleton,eD] at hb;dsimp only at hb
   rcases gy.1 ha with ha|ha
   ·have:=hlow a ha;omega
   ·split at ha
    ·exact absurd ha nE
    ·rw[List.map_singleton,eD] at ha;dsimp only at ha;omega
theorem bA.agL (h:bA B S gs) (hr:jT S l=true) (hf:fq l<=(bT S.U S.sup.blocks.toNat).length):gm S l=iW B.length (dE (eP S l l.length)++gs):=by
 by_cases hl0:l=[]
 ·subst hl0;show S.U=iW B.length (dE S.aB++gs);exact h.u
 ·funext p;unfold gm;rw[if_neg hl0,aas,ZW,h.u];rw[Bool.eq_iff_iff];unfold iW;simp only[Bool.or_eq_true,ed,Bool.not_eq_true',List.contains_eq_mem,decide_eq_true_eq,decide_eq_false_iff_not,gy]
  have hgx:∀ {p:Nat},p∈gN S l l.length->p∈dE S.aB:=fun {p} hg=>by
   obtain⟨i,x,_,H,h3⟩:=(EO l.length (aZ _)).1 hg;obtain⟨q,y,hq⟩:=h.qQ hr hf H;exact h.Aq hq.ino (hq.gone.1 h3).1
  have hnew:∀ {p:Nat},p∈dE (eP S l l.length)↔p∈dW S l∨(p∈dE S.aB/\p∉gN S l l.length):=fun {p} =>by
   constructor
   ·intro hp;obtain⟨z,hz,hpz⟩:=mE.1 hp;obtain⟨m,hm⟩:=jJ hz
    rcases(h.Dk hr hf hm).1 hpz with⟨i,x,_,_,e⟩|⟨y,e1,e2,e3⟩
    ·exact .inl (BR e)
    ·exact .inr ⟨h.Aq e1 e2,e3⟩
   ·rintro(hp|⟨hp,hn⟩)
    ·obtain⟨i,x,H,h3⟩:=anK hf hp;obtain⟨q,y,hq⟩:=h.qQ hr hf H;obtain⟨z,hz⟩:∃z,(eP S l l.length)[q]? =some z:=⟨_,aR (by rw[EZ,h.x.len];exact hq.n48)⟩
     exact mE.2 ⟨z,bJ hz,(h.Dk hr hf hz).2 (.inl ⟨i,x,H,hq.at_,h3⟩)⟩
    ·obtain⟨y,hy,hpy⟩:=mE.1 hp;obtain⟨m,hm⟩:=jJ hy;obtain⟨z,hz⟩:∃z,(eP S l l.length)[m]? =some z:=⟨_,aR (by rw[EZ];exact(bZ.1 hm).1)⟩
     exact mE.2 ⟨z,bJ hz,(h.Dk hr hf hz).2 (.inr ⟨y,hm,hpy,hn⟩)⟩
  rw[hnew]
  constructor
  ·rintro(⟨I|I|I,H⟩|I)
   ·exact .inl I
   ·exact .inr (.inl (.inr ⟨I,H⟩))
   ·exact .inr (.inr I)
   ·exact .inr (.inl (.inl I))
  ·rintro(I|(I|I)|I)
   ·refine .inl ⟨.inl I,fun hg=>?_⟩;have:=h.gU p (nC _ (hgx hg));unfold lJ at I;simp at I;omega
   ·exact .inr I
   ·exact .inl ⟨.inr (.inl I.1),I.2⟩
   ·exact .inl ⟨.inr (.inr I),fun hg=>(lZ.1 h.nd).2.2 p (hgx hg) p I rfl⟩
theorem bA.cnd (h:bA B S gs) (hr:jT S l=true) (hf:fq l<=(bT S.U S.sup.blocks.toNat).length):(dE (eP S l l.length)++gs).Nodup:=by
 have ET:=M4 oo S.aB (lZ.1 h.nd).1;rw[lZ];refine⟨aaG oo _ (fun z hz=>age ((h.NV hr hf).ok z hz)) ?_,(lZ.1 h.nd).2.1,?_⟩
 ·intro i j z1 z2 hij hz1 hz2 p hp hp2
  rcases(h.Dk hr hf hz1).1 hp with⟨a,x,a1,a2,a3⟩|⟨y,a1,a2,_⟩
  ·rcases(h.Dk hr hf hz2).1 hp2 with⟨b,x2,b1,b2,b3⟩|⟨y2,b1,b2,_⟩
   ·have:=aj9 a1 b1 a3 b3;subst this;rw[a1] at b1;rw[<-ig b1] at b2;omega
   ·exact(h.AQ (BR a3)).2.2 (nC _ (h.Aq b1 b2))
  ·rcases(h.Dk hr hf hz2).1 hp2 with⟨b,x2,b1,b2,b3⟩|⟨y2,b1,b2,_⟩
   ·exact(h.AQ (BR b3)).2.2 (nC _ (h.Aq a1 a2))
   ·exact ET i j y y2 hij a1 b1 p a2 b2
 ·intro p hp q hq e;subst e;obtain⟨z,hz,hpz⟩:=mE.1 hp;obtain⟨m,hm⟩:=jJ hz
  rcases(h.Dk hr hf hm).1 hpz with⟨i,x,_,_,e⟩|⟨y,e1,e2,_⟩
  ·exact(h.AQ (BR e)).2.2 (nD _ hq)
  ·exact(lZ.1 h.nd).2.2 p (h.Aq e1 e2) p hq rfl
theorem bA.EG (h:bA B S gs) (hr:jT S l=true) (hf:fq l<=(bT S.U S.sup.blocks.toNat).length) {next:Int} (I:S.sup.next<=next) (H:next<=16777215) (shown:Bool):
  bA (oV (kI B (iJ S l l.length)) (lu S l next shown)) (S.zk l next shown) gs:=by
 have hlen:(kI B (iJ S l l.length)).length=B.length:=Az _ _;have hgr:=h.Rb hr hf next shown
 rw[<-hlen] at hgr;have hn1:=h.n1
 have hdat:∀ {j:Nat},(∀p∈dW S l,p≠j)->(kI B (iJ S l l.length))[j]? =B[j]? :=fun {j} hj=>KD _ (fun w hw=>by
  obtain⟨p,e1,e2,_⟩:=Ro h hr hf l.length (aZ _) hw;rw[e2,fu]
  exact hj p e1) B
 have hlow:∀ {j:Nat},j<74->(kI B (iJ S l l.length))[j]? =B[j]? :=fun {j} hj=>hdat (fun p hp=>by have:=(h.AQ hp).1;omega)
 exact
  {n1:=by rw[qK,hlen];exact h.n1
   n2:=by rw[qK,hlen];exact h.n2
   x:=h.NV hr hf
   sup:=h.csup I H shown
   blocks:=by rw[qK,hlen];exact h.blocks
   ne:=h.ne
   head:=h.head
   tail:=h.tail
   recs:=h.recs
   low:=h.low
   high:=h.high
   last:=h.last
   zK:=h.zK
   gr:=h.gr
   gU:=fun p hp=>by
    rw[qK,hlen]
    rcases gy.1 hp with hp|hp
    ·obtain⟨z,hz,hpz⟩:=mE.1 hp;obtain⟨m,hm⟩:=jJ hz
     rcases(h.Dk hr hf hm).1 hpz with⟨i,x,_,_,e⟩|⟨y,e1,e2,_⟩
     ·have:=h.AQ (BR e);exact⟨this.1,this.2.1⟩
     ·exact h.gU p (nC _ (h.Aq e1 e2))
    ·exact h.gU p (nD _ hp)
   nd:=h.cnd hr hf
   u:=by
    rw[qK,hlen];exact h.agL hr hf
   b0:=EE hgr (j:=0) (by unfold lu;exact nD _ (eD.2 rfl))
   b1:=by
    show _=some (cO (gm S l))
    by_cases hl0:l=[]
    ·rw[CU hgr (by omega) (fun w hw=>by
      rcases Px hw with⟨i,x,e,_⟩|⟨e,_⟩|rfl
      ·rw[hl0] at e;simp at e
      ·exact absurd hl0 e
      ·exact(by decide:(0:Int).toNat≠1)),hlow (by omega),h.b1]
     unfold gm;rw[if_pos hl0]
    ·exact EE hgr (j:=1) (by unfold lu;rw[if_neg hl0];exact nC _ (nD _ (eD.2 rfl)))
   b2:=Rc (by rw[hlen];omega)
   bi:=fun m z hz=>by
    have apP:m<48:=by
     have h3:m< (eP S l l.length).length:=(bZ.1 hz).1;rw[(h.NV hr hf).len] at h3;exact h3
    rcases J5 h hr hf l.length (aZ _) m with⟨i,x,e1,e2,e3,e4⟩|⟨e1,e2⟩
    ·have e5:some z=some (gX S l i x):=hz.symm.trans e4;rw[ig e5];refine EE hgr (j:=26+m) ?_;unfold lu;refine nC _ (nC _ ((Lg l.length (aZ _)).2 ⟨i,x,e1,e2,?_⟩));rw[e3];congr 1
    ·rw[CU hgr (by omega) (fun w hw=>by
      rcases Px hw with⟨i,x,e3,rfl⟩|⟨_,rfl⟩|rfl
      ·obtain⟨q,y,hq⟩:=h.qQ hr hf e3;have:=hq.at_;have:=e1 i x (bZ.1 e3).1 e3;dsimp only;omega
      ·have:(1:Int).toNat=1:=rfl;dsimp only;omega
      ·have:(0:Int).toNat=0:=rfl;dsimp only
       omega),hlow (by omega)]
     exact h.bi m z (e2.symm.trans hz)
   bg:=fun i g hg=>by
    have hrg:=h.gU g (nD _ (bJ hg));show _=some (gL (chunk S.recs i) (jo gs i))
    rw[CU hgr (by omega) (fun w hw=>by
     rcases Px hw with⟨i,x,e3,rfl⟩|⟨_,rfl⟩|rfl
     ·obtain⟨q,y,hq⟩:=h.qQ hr hf e3;have:=hq.at_;have:=hq.n48;dsimp only;omega
     ·have:(1:Int).toNat=1:=rfl;dsimp only;omega
     ·have:(0:Int).toNat=0:=rfl;dsimp only
      omega),hdat (fun p hp e=>(h.AQ hp).2.2 (nD _ (e▸bJ hg)))]
    exact h.bg i g hg}
end
section
variable {B:List (List UInt8)} {S:aK} {gs:List Nat} {l:List aT}
theorem ail {i:Nat} {x:aT} {n:Nat} {y:aL} (h:sO S l i x n y):(qM S l i x).Nodup/\(qM S l i x).length<=32:=by
 have hp:y.ptrs.Pairwise fun a b=>a=b->a=0:=by
  rw[List.pairwise_iff_getElem];intro i j hi hj hij e;exact h.uH.Dj i j y.ptrs[i] hij (aR hi) (by rw[aR hj,e])
 unfold qM nu;rw[h.pQ,dF (by rw[h.uH.pl];exact aZ _)];refine⟨?_,?_⟩
 ·rw[List.nodup_iff_pairwise_ne,List.pairwise_map];refine(hp.filter _).imp_of_mem ?_;intro a b ha hb hab e;rw[List.mem_filter,ed,decide_eq_true_eq] at ha hb;obtain⟨k,hk⟩:=jJ ha.1;obtain⟨m,hm⟩:=jJ hb.1;have I:=(h.uH.pt k a hk ha.2.1).2.1;have H:=(h.uH.pt m b hm hb.2.1).2.1;exact ha.2.1 (hab (by omega))
 ·rw[qa];exact Nat.le_trans (List.length_filter_le _ _) (by rw[h.uH.pl];exact aZ _)
theorem GN (h:bA B S gs) (hr:jT S l=true) (hf:fq l<=(bT S.U S.sup.blocks.toNat).length):∀n:Nat,n<=l.length->(gN S l n).Nodup/\(gN S l n).length<=32*n
 |0,_=>⟨List.nodup_nil,aZ _⟩
 |n+1,hn=>by
  obtain⟨x,V⟩:∃x,l[n]? =some x:=⟨_,aR (by omega)⟩
  obtain⟨q,y,hq⟩:=h.qQ hr hf V;obtain⟨I,H⟩:=GN h hr hf n (by omega);obtain⟨h3,h4⟩:=ail hq;rw[Nc V,bP];refine⟨?_,by omega⟩;rw[lZ];refine⟨I,h3,fun p hp p2 hp2 e=>?_⟩;subst e;obtain⟨i,z,e1,e2,e3⟩:=(EO n (by omega)).1 hp;obtain⟨q2,y2,hq2⟩:=h.qQ hr hf e2;have ET:=M4 oo S.aB (lZ.1 h.nd).1;have hm1:=(hq2.gone.1 e3).1;have hm2:=(hq.gone.1 hp2).1
  rcases Nat.lt_trichotomy q2 q with hl|hl|hl
  ·exact ET q2 q y2 y hl hq2.ino hq.ino p hm1 hm2
  ·subst hl;have:=OE hr e2 V (hq2.at_.trans hq.at_.symm);omega
  ·exact ET q q2 y y2 hl hq.ino hq2.ino p hm2 hm1
theorem bA.YI (h:bA B S gs) (hr:jT S l=true) (hf:fq l<=(bT S.U S.sup.blocks.toNat).length):Ba S.U B.length (gN S l l.length) where
 gU p hp:=by
  obtain⟨i,x,_,H,h3⟩:=(EO l.length (aZ _)).1 hp;obtain⟨q,y,hq⟩:=h.qQ hr hf H;have hm:=h.Aq hq.ino (hq.gone.1 h3).1;have hrg:=h.gU p (nC _ hm);refine⟨hrg.1,hrg.2,?_⟩;rw[h.u];unfold iW;rw[Bool.or_eq_true,List.contains_eq_mem,decide_eq_true_eq];exact .inr (nC _ hm)
 nd:=(GN h hr hf l.length (aZ _)).1
theorem Gw (h:bA B S gs) (hr:jT S l=true) (hf:fq l<=(bT S.U S.sup.blocks.toNat).length):∀n:Nat,n<=l.length->(iJ S l n).length=jG l n
 |0,_=>rfl
 |n+1,hn=>by
  obtain⟨x,V⟩:∃x,l[n]? =some x:=⟨_,aR (by omega)⟩
  obtain⟨q,y,hq⟩:=h.qQ hr hf V;rw[MW V,bP,Gw h hr hf n (by omega),zF V,<-hq.dl];simp[oW]
end
section
variable {S:aK} {l:List aT}
theorem Xx {i:Nat} :∀d:Nat,∃r,iJ S l (i+d)=iJ S l i++r
 |0=>⟨[],(kv _).symm⟩
 |d+1=>by
  obtain⟨r,hr⟩:=Xx (i:=i) d;rw[<-Nat.add_assoc,iJ]
  split
  ·exact⟨r,hr⟩
  ·exact⟨_,by rw[hr,dX]⟩
theorem Xz (S:aK) (l:List aT) (i:Nat) (x:aT) {k:Nat} :∀d:Nat,∃r,oW S l i x (k+d)=oW S l i x k++r
 |0=>⟨[],(kv _).symm⟩
 |d+1=>by
  obtain⟨r,hr⟩:=Xz S l i x (k:=k) d;rw[<-Nat.add_assoc,XD,hr,dX];exact⟨_,rfl⟩
theorem amH {D:aG} {a r:G2} (h:(bH D a).1≠0):bH D (a++r)=bH D a:=by rw[wG,if_neg h]
theorem Xy (S:aK) (l:List aT) (i:Nat) (x:aT) (k:Nat):(oW S l i x k).length=k:=by simp[oW]
theorem XC {D1 D2:aG} {i k p:Nat} {x:aT} {d:List UInt8} (hp:(je S l i x)[k]? =some p) (hd:x.data[k]? =some d) (h:bH D1 (oW S l i x k)=(0,D2)):
  bH D1 (oW S l i x (k+1))=(gp D2 (p:Int) d.length,fG D2 (p:Int) d):=by
 rw[XD,hp,hd,wG,h,if_pos rfl];exact abX D2 _
theorem XF {D D1 D3:aG} {i k:Nat} {x:aT} {c:Int} (V:l[i]? =some x) (hk:k<x.data.length) (I:bH D (iJ S l i)=(0,D1)) (h3:bH D1 (oW S l i x (k+1))=(c,D3)) (hc:c≠0):
  bH D (iJ S l l.length)=(c,D3):=by
 have hil:=(bZ.1 V).1;obtain⟨r1,e1⟩:=Xx (S:=S) (l:=l) (i:=i+1) (l.length-(i+1));obtain⟨r2,e2⟩:=Xz S l i x (k:=k+1) (x.data.length-(k+1));rw[show i+1+(l.length-(i+1))=l.length by omega,MW V] at e1;rw[show k+1+(x.data.length-(k+1))=x.data.length by omega] at e2;rw[e1,e2,dX,dX,wG,I,if_pos rfl];show bH D1 _=_;rw[amH (by rw[h3];exact hc),h3]
theorem XE {D D1 D2:aG} {i:Nat} {x:aT} (V:l[i]? =some x) (I:bH D (iJ S l i)=(0,D1)) (H:bH D1 (oW S l i x x.data.length)=(0,D2)):bH D (iJ S l (i+1))=(0,D2):=by
 rw[MW V,wG,I,if_pos rfl];exact H
theorem Xn {D D3:aG} {next:Int} {shown:Bool} {c:Int} (hb:sj S l next=false) (hf:fq l<=(bT S.U S.sup.blocks.toNat).length) (hne:¬(l=[]/\lq S next shown=S.sup))
  (h:bH D (iJ S l l.length)=(c,D3)) (hc:c≠0):iQ S D l next shown=(c,S,D3):=by
 unfold iQ;rw[if_neg (by rw[hb];decide),if_neg (by omega),if_neg hne,h,if_pos hc]
theorem Ri {D D1 D2:aG} {next:Int} {shown:Bool} {c:Int} (hb:sj S l next=false) (hf:fq l<=(bT S.U S.sup.blocks.toNat).length) (hne:¬(l=[]/\lq S next shown=S.sup))
  (h:bH D (iJ S l l.length)=(0,D1)) (H:jm D1 (lu S l next shown)=(c,D2)):iQ S D l next shown=(c,if c=0 then S.zk l next shown else S,D2):=by
 unfold iQ;rw[if_neg (by rw[hb];decide),if_neg (by omega),if_neg hne,h,if_neg (by simp)];dsimp only;rw[H]
end
theorem Sy {B:List (List UInt8)} {S:aK} {gs:List Nat} {l:List aT} (h:bA B S gs) (hr:jT S l=true) (hf:fq l<=(bT S.U S.sup.blocks.toNat).length) (n:Nat) (hn:n<=l.length):iH (eP S l n) where
 len:=by rw[EZ];exact h.x.len
 ok z hz:=by
  obtain⟨m,hm⟩:=jJ hz
  rcases J5 h hr hf n hn m with⟨i,x,_,H,_,h4⟩|⟨_,H⟩
  ·rw[hm] at h4;obtain⟨q,y,hq⟩:=h.qQ hr hf H;rw[ig h4];exact hq.ok
  ·rw[hm] at H;exact h.x.ok z (bJ H.symm)
theorem ahJ {X:List aL} (h:iH X) {n:Nat} (hn:n<48) (y:aL) (hy:y.ptrs.length=32):(X.flatMap inv).take (n*37)++inv y++(X.flatMap inv).drop (n*37+37)=(X.set n y).flatMap inv:=by
 have:=Yj (f:=inv) y h.fl (i:=n) (by rw[h.len];exact hn);rw[this]
theorem Pg {w:World} {vt:Value} {Uw:List Nat} {tot off np:Nat} (h:Rd w vt tot 1 (iv Uw)) (hlen:Uw.length=tot) (hb:off+np<=tot):∃ao c,vt= .slice ao tot c/\off+np<=c/\Rd w (.slice (uY ao c off 1) np (c-off)) np 1 (iv ((Uw.drop off).take np)):=by
 obtain⟨ao,c,rfl,I,_⟩:=id h;refine⟨ao,c,rfl,by omega,?_⟩;have H:=(h.MS off (by omega)).Rk np (by omega);rw[Nat.mul_one,Nat.mul_one,ZM,ZN] at H;exact H
theorem EH {S:aK} {D:aG} {l:List aT} {next:Int} {shown:Bool} (h:sj S l next=true):iQ S D l next shown=(1,S,D):=if_pos h
end Go.Proofs.YtjbiihbicknemaaGreat
