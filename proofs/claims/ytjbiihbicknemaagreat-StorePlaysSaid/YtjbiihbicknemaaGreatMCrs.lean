/-
  Part of the proof of StoreWhole.
-/
import Derived.Test.YtjbiihbicknemaaGreatMCmt
set_option linter.unusedSimpArgs false
set_option linter.unusedVariables false
set_option maxRecDepth 20000
set_option maxHeartbeats 40000000
namespace Go.Proofs.YtjbiihbicknemaaGreat
open Go.RowKit Go.Sep
variable {W w:World} {L:List aA}
def uE (l:List aT) (i:Nat) (x:aT):Bool:=
 (!decide (x.at_<0)&& !decide (48<=x.at_))&&((x.data.length==x.pieces.length)&&(!o8 l i x.at_.toNat&&x.data.all (fun c=>c.length==128)))
def wo (l:List aT):Bool:=decide (l.length<=8)&&(List.range l.length).all fun i=>match l[i]? with|none=>true|some x=>uE l i x
def C8 (S:aK) (x:aT):Bool:=lX (pQ S x) x.ino x.pieces (iR (pQ S x).ptrs x.pieces.length)
def CZ (S:aK) (l:List aT):Bool:=l.all (C8 S)
theorem SV {l:List aT} {i:Nat} {x:aT} (V:l[i]? =some x) (h:uE l i x=false):wo l=false:=by
 unfold wo
 have:(List.range l.length).all (fun i=>match l[i]? with|none=>true|some x=>uE l i x)=false:=by
  rw[List.all_eq_false];refine⟨i,jD.2 (bZ.1 V).1,?_⟩;rw[V];dsimp only;rw[h];decide
 rw[this,Bool.and_false]
theorem aaj {l:List aT} (h8:l.length<=8) (h:∀(i:Nat) x,l[i]? =some x->uE l i x=true):wo l=true:=by
 unfold wo;rw[bL h8,Bool.true_and,jV];intro i hi;obtain⟨x,V⟩:∃x,l[i]? =some x:=⟨_,aR (jD.1 hi)⟩
 rw[V];exact h i _ V
theorem aai {l:List aT} (h:wo l=true):l.length<=8/\∀(i:Nat) x,l[i]? =some x->uE l i x=true:=by
 unfold wo at h;rw[ed,decide_eq_true_eq,jV] at h;refine⟨h.1,fun i x V=>?_⟩;have:=h.2 i (jD.2 (bZ.1 V).1);rw[V] at this;exact this
theorem TZ {S:aK} {l:List aT} {i:Nat} {x:aT} :wI S l i x=(uE l i x&&C8 S x):=by
 unfold wI uE C8
 cases decide (x.at_<0)<;>cases decide (48<=x.at_)<;>cases o8 l i x.at_.toNat<;>cases (x.data.length==x.pieces.length)<;>cases (x.data.all (fun c=>c.length==128))<;>rfl
theorem ahD {S:aK} {l:List aT} {x:aT} (V:x∈l) (h:C8 S x=false):CZ S l=false:=by
 unfold CZ;rw[List.all_eq_false];exact⟨x,V,by rw[h];decide⟩
theorem ahE {S:aK} {l:List aT} (h:∀x∈l,C8 S x=true):CZ S l=true:=by
 unfold CZ;rw[jV];exact h
theorem abM (S:aK) (l:List aT):jT S l=(wo l&&CZ S l):=by
 cases hm:wo l with
 |false=>
  rw[Bool.false_and]
  by_cases h8:l.length<=8
  ·cases hr:jT S l with
   |false=>rfl
   |true=>
    have h:=zJ hr
    rw[aaj h8 (fun i x V=>by
     have:=h.2 i x V;rw[TZ,ed] at this
     exact this.1)] at hm
    exact absurd hm (by decide)
  ·unfold jT;rw[bf h8];rfl
 |true=>
  rw[Bool.true_and];have h:=aai hm
  cases hf:CZ S l with
  |true=>
   refine abL h.1 (fun i x V=>?_);rw[TZ,h.2 i x V,Bool.true_and];exact jV.1 hf x (bJ V)
  |false=>
   unfold CZ at hf;rw[List.all_eq_false] at hf;obtain⟨x,V,hfx⟩:=hf;obtain⟨i,hi⟩:=jJ V;refine FE hi ?_;rw[TZ];simp only[Bool.not_eq_true] at hfx;rw[hfx,Bool.and_false]
def Hf (l:List aT) (k:Nat) (a:Int):Bool:=(l.take k).any fun y=>y.at_==a
theorem aiL {l:List aT} {i k:Nat} {y:aT} {a:Int} (hy:l[k]? =some y) (hk:k<i) (h:y.at_=a):Hf l i a=true:=by
 unfold Hf;rw[List.any_eq_true];refine⟨y,?_,by simpa using h⟩;rw[List.mem_iff_getElem?];exact⟨k,by rw[List.getElem?_take_of_lt hk];exact hy⟩
theorem aiM {l:List aT} {i:Nat} {a:Int} (h:∀k y,k<i->l[k]? =some y->y.at_≠a):Hf l i a=false:=by
 unfold Hf;rw[List.any_eq_false];intro y hy;obtain⟨k,hk⟩:=jJ hy
 have hki:k<i:=by
  have:=(bZ.1 hk).1;rw[jr] at this;omega
 rw[List.getElem?_take_of_lt hki] at hk;have:=h k y hki hk
 simpa using this
theorem amV {l:List aT} {i n:Nat} :o8 l i n=Hf l i (n:Int):=rfl
def jS (S:aK) (l:List aT):Nat->List aL
 |0=>[]
 |i+1=>match l[i]? with
  |none=>jS S l i
  |some x=>jS S l i++[gX S l i x]
theorem Tc {S:aK} {l:List aT} {i:Nat} {x:aT} (h:l[i]? =some x):jS S l (i+1)=jS S l i++[gX S l i x]:=by rw[jS,h]
theorem Hz {S:aK} {l:List aT} :∀i,i<=l.length->(jS S l i).length=i
 |0,_=>rfl
 |i+1,hi=>by
  obtain⟨x,V⟩:∃x,l[i]? =some x:=⟨_,aR (by omega)⟩
  rw[Tc V,bP,Hz i (by omega)];rfl
theorem aaC {S:aK} {l:List aT} {i:Nat} {x:aT} (V:l[i]? =some x):∀n,i<n->n<=l.length->(jS S l n)[i]? =some (gX S l i x)
 |0,h,_=>absurd h (qd _)
 |n+1,h,hn=>by
  obtain⟨y,hy⟩:∃y,l[n]? =some y:=⟨_,aR (by omega)⟩
  rw[Tc hy]
  by_cases e:i=n
  ·subst e;rw[V] at hy;rw[<-ig hy,rP (by rw[Hz i (by omega)];exact aZ _),Hz i (by omega),Nat.sub_self];rfl
  ·rw[xN (by rw[Hz n (by omega)];omega)];exact aaC V n (by omega) (by omega)
theorem aj1 (S:aK) (l:List aT):tq (mP S.U (gN S l l.length)) (dW S l)=gm S l:=by
 unfold gm
 by_cases h:l=[]
 ·subst h;rw[if_pos rfl];rfl
 ·rw[if_neg h]
def Cn (S:aK) (l:List aT):G2:=jq S l l.length++(if l=[] then [] else [(1,cO (gm S l))])
theorem anA {S:aK} {next:Int} {shown:Bool} :lq S next shown=S.sup↔(S.sup.next=next/\(shown=false∨S.sup.shown=S.sup.records)):=by
 unfold lq
 constructor
 ·intro h;refine⟨(congrArg di.next h).symm,?_⟩
  cases shown with
  |false=>exact .inl rfl
  |true=>exact .inr (congrArg di.shown h).symm
 ·rintro⟨rfl,rfl|h⟩
  ·rfl
  ·cases shown
   ·rfl
   ·rw[if_pos rfl,<-h]
theorem UL {S:aK} {l:List aT} :∀i,(jq S l i).length<=i
 |0=>aZ _
 |i+1=>by
  rw[jq];have:=UL (S:=S) (l:=l) i
  split
  ·omega
  ·rw[bP,dC];omega
theorem WC:∀(l:List bM) (G:Gr),(G.jl l).2=l.length->l.all mq=true
 |[],_,_=>rfl
 |x::l,G,h=>by
  unfold Gr.jl at h
  split at h
  ·rename_i he
   have I:mq x=true:=by
    unfold mq
    cases hk:sJ x.k x.a x.b with
    |true=>rfl
    |false=>
     unfold Gr.jY at he;rw[hk,if_neg (by decide)] at he;exact absurd he (by decide)
   have H:=WC l _ (by simpa using h);simp[I,H]
  ·simp at h
def Db (S:aK) (gs:List Nat) (l:List bM) (c:Int):List Nat:=if c=0 then eO S gs l else gs
theorem YT {S:aK} {gs:List Nat} {l:List bM} (h:S.last<=15) (hl:l=[]):eO S gs l=gs:=by
 subst hl;unfold eO kX;rw[NT h,List.take_zero,kv]
section
variable {B:List (List UInt8)} {S:aK} {gs:List Nat} {l:List bM}
theorem aiq (h:decide ((Gr.new.jl (df S l)).2=(df S l).length)=false):qN S l=true:=by unfold qN;rw[h];simp
theorem aio (h:60<l.length):qN S l=true:=by unfold qN;rw[bL h];simp
theorem aip (h:(Gr.new.jl (df S l)).2=(df S l).length) (H:l.length<=60):qN S l=false:=by
 have I:=WC _ _ h;unfold df at I;rw[List.all_append,ed] at I;unfold qN;rw[I.2,bL h,bf (by omega)];rfl
def wE (bs:List Nat) (all:List bM) (m j:Nat):G2:=(List.range j).map fun i=>(((iM bs (m+i):Nat):Int),gL (chunk all (m+i)) (jo bs (m+i)))
theorem akW (bs:List Nat) (all:List bM) (m j:Nat):wE bs all m (j+1)=wE bs all m j++[(((iM bs (m+j):Nat):Int),gL (chunk all (m+j)) (jo bs (m+j)))]:=by simp[wE,List.range_succ]
theorem akV (bs:List Nat) (all:List bM) (m j:Nat):(wE bs all m j).length=j:=by simp[wE]
theorem akU (h:bA B S gs) {m:Nat} (hm:gs.length=m+1) (j:Nat):wE (eO S gs l) (df S l) m j=wF (eZ S l) (jB S l) j:=by
 unfold wE wF;apply List.map_congr_left;intro i _;have I:iM (eO S gs l) (m+i)=iM (eZ S l) i:=by unfold iM;rw[h.Ew hm]
 rw[I,h.MI hm,h.rest hm,ML]
theorem aim (h:bA B S gs) (hb:qN S l=false) (hf:gG S l<=(bT S.U S.sup.blocks.toNat).length) {m i:Nat} (hm:gs.length=m+1) (hi:i<gG S l+1):jM (chunk (df S l) (m+i)) (jo (eO S gs l) (m+i))=true:=by
 have I:=h.YP hb hf hi;rw[h.rest hm,ML,<-h.MI hm] at I;exact I
theorem bA.anB (h:bA B S gs) (hf:gG S l<=(bT S.U S.sup.blocks.toNat).length) (shown:Bool) {m:Nat} (hm:gs.length=m+1):
  gD S l shown= {nA S l shown with tail:=((iM (eO S gs l) (m+gG S l):Nat):Int)} :=by
 obtain⟨t,I,H⟩:=h.RX hf shown hm;have h3:iM (eO S gs l) (m+gG S l)=t:=by unfold iM;rw[I];rfl
 rw[h3,<-H];unfold gD
 split<;>rfl
end
theorem ab0 (l:G2):∀D:aG,D.dead=false->Good D.blocks.length l->
  ((bH D l).1=0/\(bH D l).2.dead=false/\(bH D l).2.blocks=kI D.blocks l)∨
  ((bH D l).1=22/\(bH D l).2.dead=true/\∃j,(bH D l).2.blocks=kI D.blocks (l.take j)):=by
 induction l with
 |nil=>exact fun D hd _=> .inl ⟨rfl,hd,rfl⟩
 |cons x l ih=>
  intro D hd hG;obtain⟨g1,g2,g3⟩:=hG x (List.mem_cons_self ..);have hb:¬bad D.blocks.length x.1 x.2.length:=by unfold bad;omega
  by_cases hl:D.left=0
  ·have hc:gp D x.1 x.2.length=22:=by unfold gp;rw[hd,if_neg (by simp),if_neg hb,if_pos hl]
   have hn:fG D x.1 x.2= {D with dead:=true} :=by unfold fG;rw[if_neg (by simp[hd]),if_neg hb,if_pos hl]
   have e:bH D (x::l)=(22,{D with dead:=true}):=by show(if _ then _ else _)=_;rw[hc,if_neg (by decide),hn]
   rw[e];exact .inr ⟨rfl,rfl,0,rfl⟩
  ·have hc:gp D x.1 x.2.length=0:=by unfold gp;rw[hd,if_neg (by simp),if_neg hb,if_neg hl]
   have hn:fG D x.1 x.2=D.wrote x.1.toNat x.2:=by unfold fG;rw[if_neg (by simp[hd]),if_neg hb,if_neg hl]
   have e:bH D (x::l)=bH (D.wrote x.1.toNat x.2) l:=by show(if _ then _ else _)=_;rw[hc,if_pos rfl,hn]
   rw[e]
   rcases ih (D.wrote x.1.toNat x.2) hd (fun y hy=>by rw[Lj];exact hG y (List.mem_cons_of_mem _ hy)) with⟨I,H,h3⟩|⟨I,H,j,h3⟩
   ·exact .inl ⟨I,H,h3⟩
   ·exact .inr ⟨I,H,j+1,h3⟩
section
variable {B C:List (List UInt8)} {S S1:aK} {gs gs1:List Nat}
theorem bA.same (h:bA B S gs) (hl:C.length=B.length) (h0:C[0]? =B[0]?) (I:C[1]? =B[1]?) (H:C[2]? =some (zeros 128)) (hi:∀i,C[26+i]? =B[26+i]? ∨48<=i) (hg:∀p∈gs,C[p]? =B[p]?):bA C S gs where
 n1:=by rw[hl];exact h.n1
 n2:=by rw[hl];exact h.n2
 x:=h.x
 sup:=h.sup
 blocks:=by rw[hl];exact h.blocks
 ne:=h.ne
 head:=h.head
 tail:=h.tail
 recs:=h.recs
 low:=h.low
 high:=h.high
 last:=h.last
 zK:=h.zK
 gr:=h.gr
 gU:=by rw[hl];exact h.gU
 nd:=h.nd
 u:=by rw[hl];exact h.u
 b0:=h0.trans h.b0
 b1:=I.trans h.b1
 b2:=H
 bi i x V:=by
  have hlt:=(bZ.1 V).1;rw[h.x.len] at hlt
  rcases hi i with e|e
  ·exact e.trans (h.bi i x V)
  ·omega
 bg i g hg':=(hg g (bJ hg')).trans (h.bg i g hg')
theorem bA.out (h:bA B S gs) (hl:C.length=B.length) (H:C[2]? =some (zeros 128)) (hs:yl C B):bA C S gs:=
 h.same hl (hs 0 (by unfold tC;omega)) (hs 1 (by unfold tC;omega)) H (fun i=> .inl (hs _ (by unfold tC;omega))) (fun p hp=>hs p (by
  have:=(h.gU p (nD _ hp)).1;unfold tC
  omega))
def yh (gP:aG) (S:aK) (gs:List Nat) (C:List (List UInt8)):Prop:=
 ∃E k,o6 gP=(0,E)/\Lv E E.blocks k/\k<=gP.writes.length+42/\bA E.blocks S gs/\∀p∈dE S.aB,E.blocks[p]? =C[p]?
theorem TC (h:bA B S gs) {p:Nat} (hp:p∈dE S.aB):tC p:=by
 have:=(h.gU p (nC _ hp)).1;unfold tC;omega
structure Fr (gP:aG):Prop where
 left:gP.left= -1
 dead:gP.dead=false
 dg:DG gP gP.writes.length
theorem Fr.lv {gP:aG} (h:Fr gP):Lv gP gP.blocks gP.writes.length:=⟨rfl,h.left,h.dead,h.dg⟩
theorem Ox {gP:aG} (hI:Fr gP) (h:bA gP.blocks S gs) (hc:∀p∈dE S.aB,gP.blocks[p]? =C[p]?):yh gP S gs C:=
 ⟨gP,_,(TR h.b2).2,hI.lv,by omega,h,hc⟩
theorem Xj {g:G2} (hg:w9 B.length g):yl (lH B g) (oV B g):=fun m ho=>(Re hg (by unfold tC at ho;omega)).symm
theorem yl.trans {A B C:List (List UInt8)} (h:yl A B) (H:yl B C):yl A C:=fun m ho=>(h m ho).trans (H m ho)
theorem alI {gP:aG} {g:G2} {f:Int} (hI:Fr gP) (h:bA B S gs) (hg:w9 B.length g) (I:bA (oV B g) S1 gs1) (hlen:gP.blocks.length=B.length) (hst:Ml B g f gP.blocks):yh gP S gs B∨yh gP S1 gs1 (oV B g):=by
 have hn1:=h.n1
 rcases hst with⟨H,h3⟩|⟨hf,H,h3,h4⟩
 ·rcases h3 with h3|⟨_,h3⟩
  ·right;have h5:=h3.trans (Xj hg);exact Ox hI (I.out (by rw[qK,hlen]) H h5) (fun p hp=>h5 p (TC I hp))
  ·left;exact Ox hI (h.out hlen H h3) (fun p hp=>h3 p (TC h hp))
 ·right;have Ao:gT gP.blocks.length g=true:=by rw[hlen];exact hg.ok
  have hgood:=YO Ao (by omega);obtain⟨E,e1,hE⟩:=amN (fC g) hI.lv (fun x V=>hgood x V);have hd:=abu (n:=(gP.blocks.length:Int)) Ao (B:=gP.blocks) (B0:=B) rfl (by rw[hlen]) (by omega) h4;have hbl:=hE.bl;have h5:yl E.blocks (oV B g):=by rw[hbl];exact hd.2.trans (Xj hg)
  have h6:bA E.blocks S1 gs1:=I.out (by rw[hbl,Az,qK,hlen]) (by rw[hbl];exact hd.1) h5;refine⟨E,_,?_,by rw[hbl];exact hE,?_,h6,fun p hp=>h5 p (TC I hp)⟩
  ·rw[(alP Ao (by rw[hlen];exact h.n2) H h3).2,e1]
  ·have:=hg.hi;unfold fC;rw[bP,dC];omega
def AY (B:List (List UInt8)) (S:aK) (gs:List Nat) (dl:G2):Prop:=∀x∈dl,∃p:Nat,x.1=(p:Int)/\74<=p/\p<B.length/\p∉dE S.aB++gs/\x.2.length=128
theorem AY.take {dl:G2} (h:AY B S gs dl) (j:Nat):AY B S gs (dl.take j):=fun x V=>h x (List.mem_of_mem_take V)
theorem AY.other {dl:G2} (h:AY B S gs dl) {p:Nat} (hp:p<74∨p∈dE S.aB++gs):(kI B dl)[p]? =B[p]? :=
 KD _ (fun x V=>by
  obtain⟨q,e,I,_,h3,_⟩:=h x V;rw[e,fu];intro e2;subst e2
  rcases hp with hp|hp
  ·omega
  ·exact h3 hp) B
theorem bA.Yq (h:bA B S gs) {dl:G2} (hf:AY B S gs dl):bA (kI B dl) S gs:=
 h.same (Az _ _) (hf.other (.inl (by omega))) (hf.other (.inl (by omega))) ((hf.other (.inl (by omega))).trans h.b2)
  (fun i=>by
   by_cases e:48<=i
   ·exact .inr e
   ·exact .inl (hf.other (.inl (by omega))))
  (fun p hp=>hf.other (.inr (nD _ hp)))
theorem ab3 {D:aG} {a r:G2} (h:(bH D a).1≠0):bH D (a++r)=bH D a:=by rw[wG,if_neg h]
theorem ab2 {D:aG} {a r:G2} (h:(bH D a).1=0):bH D (a++r)=bH (bH D a).2 r:=by rw[wG,if_pos h]
theorem amO {dl g:G2} (h:bA B S gs) (hdl:AY B S gs dl) (hg:w9 B.length g) (I:bA (oV (kI B dl) g) S1 gs1) {D:aG} (hd:D.dead=false) (hb:D.blocks=B):
  ((bH D (dl++jA g)).1=0/\(bH D (dl++jA g)).2.dead=false/\(bH D (dl++jA g)).2.blocks=oV (kI B dl) g)∨
  ((bH D (dl++jA g)).1=22/\(bH D (dl++jA g)).2.dead=true/\∀gP,Fr gP->gP.blocks=(bH D (dl++jA g)).2.blocks->yh gP S gs B∨yh gP S1 gs1 (oV (kI B dl) g)):=by
 have hn1:=h.n1
 have hgood:Good D.blocks.length dl:=fun x V=>by
  obtain⟨p,e,H,h3,_,h5⟩:=hdl x V;rw[hb,e];exact⟨by omega,by omega,h5⟩
 rcases ab0 dl D hd hgood with⟨a1,a2,a3⟩|⟨a1,a2,j,a3⟩
 ·rw[ab2 a1];generalize (bH D dl).2=D1 at a2 a3 ⊢;rw[hb] at a3;have hg2:w9 (kI B dl).length g:=by rw[Az];exact hg
  have hlen:D1.blocks.length=B.length:=by rw[a3,Az]
  have Ao:gT D1.blocks.length g=true:=by rw[hlen];exact hg.ok
  rcases ab0 (jA g) D1 a2 (YN Ao (by rw[hlen];omega)) with⟨b1,b2,b3⟩|⟨b1,b2,j,b3⟩
  ·exact .inl ⟨b1,b2,by rw[b3,a3];rfl⟩
  ·refine .inr ⟨b1,b2,fun gP hI GU=>?_⟩;have hs:=h.Yq hdl;have hst:=Ml.EG (D:=D1) a2 Ao (by rw[hlen];omega) (by rw[a3];exact hs.b2);rw[<-GU,a3] at hst
   rcases alI hI hs hg2 I (by rw[GU,b3,Az,a3]) hst with hr|hr
   ·obtain⟨E,k,r1,r2,r3,r4,r5⟩:=hr;exact .inl ⟨E,k,r1,r2,r3,r4,fun p hp=>(r5 p hp).trans (hdl.other (.inr (nC _ hp)))⟩
   ·exact .inr hr
 ·have hne:(bH D dl).1≠0:=by rw[a1];decide
  rw[ab3 hne];refine .inr ⟨a1,a2,fun gP hI GU=> .inl ?_⟩;rw[a3,hb] at GU;exact Ox hI (by rw[GU];exact h.Yq (hdl.take j)) (fun p hp=>by rw[GU];exact(hdl.take j).other (.inr (nC _ hp)))
def CR (S:aK) (gs:List Nat) (B:List (List UInt8)) (c1:Int) (S1:aK) (gs1:List Nat) (B1:List (List UInt8)) (D:aG) (r:Int×aK×aG):Prop:=
 (∃l:G2,l.length<=500/\r.2.2=(bH D l).2)/\
 ((r.1=c1/\r.2.1=S1/\r.2.2.dead=false/\r.2.2.blocks=B1)∨(r.1=22/\r.2.1=S/\r.2.2.dead=true/\∀gP,Fr gP->gP.blocks=r.2.2.blocks->yh gP S gs B∨yh gP S1 gs1 B1))
theorem FL {D:aG} {c:Int} (hd:D.dead=false) (hb:D.blocks=B):CR S gs B c S gs B D (c,S,D):=⟨⟨[],by decide,rfl⟩, .inl ⟨rfl,rfl,hd,hb⟩⟩
theorem UH {dl g:G2} (h:bA B S gs) (hdl:AY B S gs dl) (hdn:dl.length<=400) (hg:w9 B.length g) (I:bA (oV (kI B dl) g) S1 gs1) {D:aG} (hd:D.dead=false) (hb:D.blocks=B) {r:Int×aK×aG}
  (hr:r=((bH D (dl++jA g)).1,(if(bH D (dl++jA g)).1=0 then S1 else S),(bH D (dl++jA g)).2)):CR S gs B 0 S1 gs1 (oV (kI B dl) g) D r:=by
 subst hr;refine⟨⟨dl++jA g,?_,rfl⟩,?_⟩
 ·have:=hg.hi;unfold jA fC;rw[bP,bP,wm,fB,bP,dC];omega
 ·rcases amO h hdl hg I hd hb with⟨a1,a2,a3⟩|⟨a1,a2,a3⟩
  ·exact .inl ⟨a1,by dsimp only;rw[if_pos a1],a2,a3⟩
  ·exact .inr ⟨a1,by dsimp only;rw[if_neg (by rw[a1];decide)],a2,a3⟩
theorem Rf {D:aG} {g:G2} (hg:w9 B.length g) (hb:D.blocks.length=B.length):jm D g=bH D (jA g):=by
 unfold jm;rw[hb,if_pos hg.ok]
theorem akb (h:bA B S gs):∃c1 S1 B1,bA B1 S1 gs/\B1.length=B.length/\∀D:aG,D.dead=false->D.blocks=B->CR S gs B c1 S1 gs B1 D (pR S D):=by
 by_cases hm:16777215<=S.sup.cZ
 ·refine⟨5,S,B,h,rfl,fun D hd hb=>?_⟩;have e:pR S D=(5,S,D):=by unfold pR;rw[if_pos hm]
  rw[e];exact FL hd hb
 ·have hs2:=Ut h.sup (by omega);have hg:=h.Xi (zM S.sup);have I:=h.ak7 hs2 rfl rfl rfl rfl;refine⟨0,{S with sup:=zM S.sup},oV B [(0,encS (zM S.sup))],I,qK _ _,fun D hd hb=>?_⟩;refine UH (dl:=[]) h (fun x V=>nomatch V) (by decide) hg I hd hb ?_;unfold pR;rw[if_neg hm,Rf hg (by rw[hb])];rfl
theorem Xo (h:bA B S gs) (l:List aT) (ht:fq l<=400) (next:Int) (shown:Bool):∃c1 S1 B1,bA B1 S1 gs/\B1.length=B.length/\∀D:aG,D.dead=false->D.blocks=B->CR S gs B c1 S1 gs B1 D (iQ S D l next shown):=by
 by_cases hb1:sj S l next=true
 ·refine⟨1,S,B,h,rfl,fun D hd hb=>?_⟩;have e:iQ S D l next shown=(1,S,D):=by unfold iQ;rw[if_pos hb1]
  rw[e];exact FL hd hb
 by_cases hf:(bT S.U S.sup.blocks.toNat).length<fq l
 ·refine⟨2,S,B,h,rfl,fun D hd hb=>?_⟩;have e:iQ S D l next shown=(2,S,D):=by unfold iQ;rw[if_neg hb1,if_pos hf]
  rw[e];exact FL hd hb
 by_cases hs:l=[]/\lq S next shown=S.sup
 ·refine⟨0,S,B,h,rfl,fun D hd hb=>?_⟩;have e:iQ S D l next shown=(0,S,D):=by unfold iQ;rw[if_neg hb1,if_neg hf,if_pos hs]
  rw[e];exact FL hd hb
 have hb2:sj S l next=false:=by simpa using hb1
 have hf2:fq l<=(bT S.U S.sup.blocks.toNat).length:=by omega
 unfold sj at hb2;simp only[Bool.or_eq_false_iff,decide_eq_false_iff_not,Bool.not_eq_eq_eq_not,Bool.not_false] at hb2;obtain⟨n1,n2,hr⟩:=hb2;have hg:=h.Rb hr hf2 next shown
 have I:=h.EG hr hf2 (next:=next) (by omega) (by omega) shown;refine⟨0,S.zk l next shown,_,I,by rw[qK,Az],fun D hd hb=>?_⟩
 have hdl:AY B S gs (iJ S l l.length):=fun x V=>by
  obtain⟨p,a1,a2,a3⟩:=Ro h hr hf2 l.length (aZ _) V;have:=h.AQ a1;exact⟨p,a2,this.1,this.2.1,this.2.2,a3⟩
 have hdn:(iJ S l l.length).length<=400:=by rw[Gw h hr hf2 l.length (aZ _),Fh];exact ht
 refine UH h hdl hdn hg I hd hb ?_;unfold iQ;rw[if_neg hb1,if_neg hf,if_neg hs]
 by_cases he:(bH D (iJ S l l.length)).1=0
 ·have hbl:(bH D (iJ S l l.length)).2.blocks.length=B.length:=by rw[TU,hb]
  rw[if_neg (by rw[he];decide),Rf hg hbl,ab2 he]
 ·rw[if_pos he,ab3 he,if_neg he]
end
def Cj (r:bM):List UInt8:=[lb r.k 0,lb r.a 0,lb r.a 1,lb r.b 0,lb r.b 1,lb r.b 2]
def DJ (x:aL):List UInt8:=[lb x.kind 0,lb x.size 0,lb x.size 1,lb x.links 0,lb x.obj 0,lb x.node 0]
def AR (B:List (List UInt8)) (p:Int):List UInt8:=if p=0 then [] else B[p.toNat]?.getD []
def wM (B:List (List UInt8)) (x:aL) (k:Nat):List UInt8:=(x.ptrs.take k).flatMap (AR B)
def DK (B:List (List UInt8)) (x:aL):List UInt8:=DJ x++(if x.kind=0 then [] else wM B x 32)
def yT (S:aK) (i:Nat):List UInt8:=encS S.sup++(S.recs.take i).flatMap Cj
def uN (B:List (List UInt8)) (S:aK) (i:Nat):List UInt8:=yT S S.recs.length++(S.aB.take i).flatMap (DK B)
def qU (B:List (List UInt8)) (S:aK):List UInt8:=uN B S 48
theorem anS (S:aK):yT S 0=encS S.sup:=by simp[yT]
theorem anR {S:aK} {i:Nat} {r:bM} (h:S.recs[i]? =some r):yT S (i+1)=yT S i++Cj r:=by
 unfold yT;rw[ik,h];simp
theorem an3 (B:List (List UInt8)) (S:aK):uN B S 0=yT S S.recs.length:=by simp[uN]
theorem an2 {B:List (List UInt8)} {S:aK} {i:Nat} {x:aL} (h:S.aB[i]? =some x):uN B S (i+1)=uN B S i++DK B x:=by
 unfold uN;rw[ik,h];simp
theorem acV (B:List (List UInt8)) (x:aL):wM B x 0=[]:=by simp[wM]
theorem anW {B:List (List UInt8)} {x:aL} {k:Nat} {p:Int} (h:x.ptrs[k]? =some p):wM B x (k+1)=wM B x k++AR B p:=by
 unfold wM;rw[ik,h];simp
theorem anX {B:List (List UInt8)} (hB:∀b∈B,b.length=128) (p:Int):(AR B p).length<=128:=by
 unfold AR
 split
 ·simp
 ·cases h:B[p.toNat]? with
  |none=>simp
  |some b=>rw[Option.getD_some,hB b (bJ h)];exact aZ _
theorem M6 {α:Type} (f:α->List UInt8) (n:Nat):∀l:List α,(∀x∈l,(f x).length<=n)->(l.flatMap f).length<=l.length*n
 |[],_=>by simp
 |x::l,h=>by
  have I:=M6 f n l (fun y hy=>h y (List.mem_cons_of_mem _ hy));have H:=h x (List.mem_cons_self ..);rw[pY,bP,fB,Nat.succ_mul];omega
theorem acU {B:List (List UInt8)} (hB:∀b∈B,b.length=128) (x:aL) (k:Nat) (hk:k<=32):(wM B x k).length<=4096:=by
 have I:=M6 (AR B) 128 (x.ptrs.take k) (fun p _=>anX hB p);have H:(x.ptrs.take k).length<=32:=by rw[jr];omega
 have:=Nat.mul_le_mul_right 128 H;unfold wM;omega
theorem anV {B:List (List UInt8)} (hB:∀b∈B,b.length=128) (x:aL):(DK B x).length<=4102:=by
 unfold DK;rw[bP,show(DJ x).length=6 from rfl]
 split
 ·simp
 ·have:=acU hB x 32 (aZ _);omega
theorem acT {S:aK} (h:S.recs.length<=100000) (i:Nat):(yT S i).length<=600128:=by
 have I:=M6 Cj 6 (S.recs.take i) (fun x _=>aZ _);have H:(S.recs.take i).length<=100000:=by rw[jr];omega
 have:=Nat.mul_le_mul_right 6 H;unfold yT;rw[bP,oD];omega
theorem an1 {B:List (List UInt8)} {S:aK} (hB:∀b∈B,b.length=128) (h:S.recs.length<=100000) (i:Nat) (hi:i<=48):(uN B S i).length<=800000:=by
 have I:=M6 (DK B) 4102 (S.aB.take i) (fun x _=>anV hB x);have H:(S.aB.take i).length<=48:=by rw[jr];omega
 have h4:=acT h S.recs.length;have:=Nat.mul_le_mul_right 4102 H;unfold uN;rw[bP];omega
theorem Rx {α:Type} {f g:α->List UInt8} :∀ {l:List α},(∀x∈l,f x=g x)->l.flatMap f=l.flatMap g
 |[],_=>rfl
 |x::l,h=>by rw[pY,pY,h x (List.mem_cons_self ..),Rx fun y hy=>h y (List.mem_cons_of_mem _ hy)]
theorem an0 {B C:List (List UInt8)} {S:aK} (V:iH S.aB) (h:∀p∈dE S.aB,B[p]? =C[p]?):qU B S=qU C S:=by
 unfold qU uN;congr 1
 have e:∀x∈S.aB.take 48,DK B x=DK C x:=fun x hxm=>by
  have hm:=List.mem_of_mem_take hxm;unfold DK;congr 1
  split
  ·rfl
  ·unfold wM
   have e2:∀p∈x.ptrs.take 32,AR B p=AR C p:=fun p hp=>by
    have hp:=List.mem_of_mem_take hp;unfold AR
    split
    ·rfl
    ·rename_i h0
     have:p.toNat∈dE S.aB:=by
      unfold dE;exact mE.2 ⟨x,hm,Kg.2 ⟨p,hp,h0,rfl⟩⟩
     rw[h _ this]
   exact Rx e2
 exact Rx e
end Go.Proofs.YtjbiihbicknemaaGreat
