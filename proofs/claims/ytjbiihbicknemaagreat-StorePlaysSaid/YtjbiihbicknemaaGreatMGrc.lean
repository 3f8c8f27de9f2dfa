/-
  Part of the proof of StoreWhole.
-/
import Derived.Test.YtjbiihbicknemaaGreatMGrb
set_option linter.unusedSimpArgs false
set_option linter.unusedVariables false
set_option maxRecDepth 20000
set_option maxHeartbeats 40000000
namespace Go
theorem UK {P:Program} {a:Act} {w:World} {Q:Exit->Act->World->Prop} {c r:Code} (l:Nat) (l7:Act->World->Prop) (μ:Act->World->Nat) (hf:findLabel c l=some (Code.skip.seq r))
  (pass:∀a w,l7 a w->r.wp P (Exit.jump l (fun a' w'=>l7 a' w'/\μ a' w'<μ a w) Q) a w) (first:(∀a w,l7 a w->r.wp P (Exit.jump l l7 Q) a w)->c.wp P (Exit.jump l l7 Q) a w):(Code.scope c).wp P Q a w:=
 wp_scope_jumps l l7 μ hf (first fun a w h=>Code.wp_mono (fun e a' w' H=>by
  cases e with
  |goto l'=>exact⟨H.1,H.2.1⟩
  |_=>exact H) (pass a w h)) fun a w h=>wp_seq (wp_skip (pass a w h))
end Go
namespace Go.Proofs.YtjbiihbicknemaaGreat
open Go.Sep
set_option linter.unusedSimpArgs false
set_option linter.unusedVariables false
theorem Iz:∀ {l m:List Nat},l.Pairwise (· < ·)->m.Pairwise (· < ·)->(∀x,x∈l↔x∈m)->l=m
 |[],[],_,_,_=>rfl
 |[],y::m,_,_,h=>absurd ((h y).2 (List.mem_cons_self ..)) (by simp)
 |x::l,[],_,_,h=>absurd ((h x).1 (List.mem_cons_self ..)) (by simp)
 |x::l,y::m,hl,hm,h=>by
  rw[List.pairwise_cons] at hl hm
  have hxy:x=y:=by
   have I:=(h x).1 (List.mem_cons_self ..);have H:=(h y).2 (List.mem_cons_self ..);rw[oK] at I H
   rcases I with I|I
   ·exact I
   ·rcases H with H|H
    ·exact H.symm
    ·have:=hm.1 x I;have:=hl.1 y H;omega
  subst hxy;congr 1;refine Iz hl.2 hm.2 fun z=>?_
  have hz:=h z;rw[oK,oK] at hz
  constructor
  ·intro I
   rcases hz.1 (.inr I) with rfl|H
   ·have:=hl.1 z I;omega
   ·exact H
  ·intro I
   rcases hz.2 (.inr I) with rfl|H
   ·have:=hm.1 z I;omega
   ·exact H
theorem anp {l:List Nat} {x:Nat} :x∈xJ l↔x∈l:=by unfold xJ;exact List.mem_mergeSort
theorem ano {l:List Nat} (h:l.Nodup):(xJ l).Pairwise (· < ·):=by
 have I:(xJ l).Pairwise fun x y=>decide (x<=y)=true:=List.pairwise_mergeSort (fun a b c I H=>by simp only[decide_eq_true_eq] at*;omega) (fun a b=>by simp;omega) l
 have H:(xJ l).Nodup:=(List.mergeSort_perm l _).nodup_iff.2 h;refine(List.Pairwise.and I H).imp fun {a b} h=>?_
 have:=of_decide_eq_true h.1;have:=h.2;omega
theorem aaH:∀ {n:Nat} {l:List Nat},l.Nodup->(∀x∈l,x<n)->l.length<=n
 |0,[],_,_=>aZ _
 |0,x::_,_,h=>absurd (h x (List.mem_cons_self ..)) (by omega)
 |n+1,l,hd,h=>by
  have H:=aaH (n:=n) (l:=l.erase n) (hd.erase n) fun x V=>by
   have h3:=(List.Nodup.mem_erase_iff hd).1 V;have:=h x h3.2;have:=h3.1;omega
  rw[List.length_erase] at H
  split at H<;>omega
namespace Gr
open Classical in
noncomputable def above (G:Gr) (n:Nat):List Nat:=(List.range G.N.length).filter fun k=>decide (G.Reach n k)
noncomputable def ym (G:Gr) (n:Int):List Nat:=if G.is n then G.above n.toNat else []
end Gr
theorem Gr.NQ {G:Gr} {n k:Nat} :k∈G.above n↔k<G.N.length/\G.Reach n k:=by simp[Gr.above]
theorem Gr.afU (G:Gr) (n:Nat):(G.above n).Pairwise (· < ·):=List.Pairwise.filter _ List.pairwise_lt_range
theorem Gr.afT (G:Gr) (n:Nat):(G.above n).length<=G.N.length:=by
 have:=List.length_filter_le (fun k=> @decide (G.Reach n k) (Classical.propDecidable _)) (List.range G.N.length)
 simpa [Gr.above] using this
noncomputable def Gr.reaches (G:Gr) (a b:Int):Bool:=(G.ym a).any fun y=>decide ((y:Int)=b)
structure Wk (G:Gr) (n:Nat) (l:List Nat) (i:Nat):Prop where
 nd:l.Nodup
 src:n∈l
 low:∀x∈l,x<G.N.length
 reach:∀x∈l,G.Reach n x
 done:∀j x,j<i->l[j]? =some x->∀y,(x,y)∈G.E->y∈l
 le:i<=l.length
def Aa (l:List Nat) (y:Nat):List Nat:=if y∈l then l else l++[y]
theorem Ke {l:List Nat} {y z:Nat} :z∈Aa l y↔z∈l∨z=y:=by
 unfold Aa
 split
 ·rename_i h
  exact⟨.inl,fun H=>H.elim id fun e=>e▸h⟩
 ·simp
theorem Wt {l:List Nat} {y i x:Nat} (h:l[i]? =some x):(Aa l y)[i]? =some x:=by
 unfold Aa
 split
 ·exact h
 ·rw[xN (bZ.1 h).1];exact h
theorem Wk.start {G:Gr} {n:Nat} (h:n<G.N.length):Wk G n [n] 0 where
 nd:=by simp
 src:=by simp
 low:=by simpa using h
 reach:=fun x V=>by rw[eD.1 V];exact Gr.Reach.refl G n
 done:=by intro j x hj;omega
 le:=by simp
theorem Wk.add {G:Gr} (hG:G.Ok) {n i x y:Nat} {l:List Nat} (h:Wk G n l i) (V:l[i]? =some x) (hy:y∈G.ups x):Wk G n (Aa l y) i where
 nd:=by
  unfold Aa
  split
  ·exact h.nd
  ·rename_i hn
   rw[lZ];exact⟨h.nd,by simp,fun a ha b hb=>by rw[eD.1 hb];rintro rfl;exact hn ha⟩
 src:=Ke.2 (.inl h.src)
 low:=fun z hz=>by
  rcases Ke.1 hz with hz|rfl
  ·exact h.low z hz
  ·exact(Gr.Di.1 hy).1
 reach:=fun z hz=>by
  rcases Ke.1 hz with hz|rfl
  ·exact h.reach z hz
  ·exact(h.reach x (bJ V)).snoc (Gr.Di.1 hy).2
 done:=fun j z hj hz u hu=>by
  have hlt:j<l.length:=by have:=h.le;omega
  obtain⟨z',hz'⟩:∃z',l[j]? =some z':=⟨_,aR hlt⟩
  have:=Wt (y:=y) hz';rw[this] at hz;cases hz;exact Ke.2 (.inl (h.done j _ hj hz' u hu))
 le:=by
  have:=h.le;unfold Aa
  split
  ·exact this
  ·simp;omega
theorem Wk.next {G:Gr} (hG:G.Ok) {n i x:Nat} {l:List Nat} (h:Wk G n l i) (V:l[i]? =some x) (hy:∀y∈G.ups x,y∈l):Wk G n l (i+1) where
 nd:=h.nd
 src:=h.src
 low:=h.low
 reach:=h.reach
 done:=fun j z hj hz u hu=>by
  by_cases hji:j=i
  ·subst hji;rw[V] at hz;cases hz;exact hy u (Gr.Di.2 ⟨(hG.low _ hu).2,hu⟩)
  ·exact h.done j z (by omega) hz u hu
 le:=(bZ.1 V).1
theorem Wk.len {G:Gr} {n i:Nat} {l:List Nat} (h:Wk G n l i):l.length<=G.N.length:=aaH h.nd h.low
theorem Wk.ahg {G:Gr} {n i:Nat} {l:List Nat} (h:Wk G n l i) (hi:i=l.length):xJ l=G.above n:=by
 refine Iz (ano h.nd) (G.afU n) fun x=>?_
 rw[anp,Gr.NQ]
 constructor
 ·exact fun V=>⟨h.low x V,h.reach x V⟩
 ·rintro⟨_,V⟩;refine V (fun z=>z∈l) h.src fun a b ha hab=>?_
  obtain⟨j,hj⟩:=List.mem_iff_getElem?.1 ha;exact h.done j a (by have:=(bZ.1 hj).1;omega) hj b hab
def zL (l:List Nat) (k:Int):Option Bool:=if l.any (fun x=>decide ((x:Int)=k)) then some true else none
theorem amZ (n:Nat):(fun k':Int=>if k'=(n:Int) then some true else(none:Option Bool))=zL [n]:=by
 funext k;unfold zL;simp only[List.any_cons,List.any_nil,Bool.or_false,decide_eq_true_eq]
 by_cases h:k=(n:Int)
 ·rw[if_pos h,if_pos h.symm]
 ·rw[if_neg h,if_neg (fun e=>h e.symm)]
theorem am0 (l:List Nat) (y:Nat):(fun k':Int=>if k'=(y:Int) then some true else zL l k')=zL (l++[y]):=by
 funext k;unfold zL;simp only[List.any_append,List.any_cons,List.any_nil,Bool.or_false,Bool.or_eq_true,decide_eq_true_eq]
 by_cases h:k=(y:Int)
 ·rw[if_pos h,if_pos (.inr h.symm)]
 ·rw[if_neg h]
  by_cases H:l.any (fun x=>decide ((x:Int)=k))=true
  ·rw[if_pos H,if_pos (.inl H)]
  ·rw[if_neg H,if_neg (fun e=>e.elim H fun e=>h e.symm)]
theorem am1 {l:List Nat} {y:Nat} (h:y∈l):yJ bw (.bool false) (zL l (y:Int))= .bool true:=by
 unfold zL;rw[if_pos (List.any_eq_true.2 ⟨y,h,by simp⟩)];rfl
theorem amY {l:List Nat} {y:Nat} (h:y∉l):yJ bw (.bool false) (zL l (y:Int))= .bool false:=by
 unfold zL
 rw[if_neg (by
  intro H;obtain⟨x,V,he⟩:=List.any_eq_true.1 H;have:x=y:=by have:=of_decide_eq_true he;omega
  exact h (this▸V))];rfl

end Go.Proofs.YtjbiihbicknemaaGreat
namespace Go.Proofs.YtjbiihbicknemaaGreat
open Go.RowKit Go.Sep
variable {W w:World} {L:List aA}
attribute [local irreducible] Oper.wp wpList Calls Code.wp Sep.dR Sep.fJ
attribute [local irreducible] dQ
theorem NL:cO Tryz.prog 227=some (3,4):=by kernel_rfl
theorem NF:Eo Tryz.prog 3 (Value.int .i64):=ajw (by kernel_rfl)
def intOf:Value->Int| .int _ q=>q|_=>0
theorem dQ.aar {p:Nat} {G:Gr} {vn vu vd:Value} {gJ iE:List Value} {me ml:Nat} (hu:gJ.length=G.ku.length) (hd:iE.length=G.kE.length)
  (h:Sat W w (Cs p 202 [vn,vu,vd, .map (some me), .map (some ml)]::Tb 214 6 nv vn G.N::Tb 88 1 eF vu gJ::St (List.zipWith iU gJ G.ku)::
   Tb 88 1 eF vd iE::St (List.zipWith iU iE G.kE)::Mp ek bw me G.pI::Mp ek nw ml G.nO::L)):Sat W w (dQ p G::L):=by
 refine dQ.mk (vn:=vn) (vu:=vu) (vd:=vd) (me:=me) (ml:=ml) ?_;rw[II 88 0,II 88 0] at h;have h6:=Sat.KS hd (h.re [4,5]);have h7:=Sat.KS hu (h6.re [3,4]);exact h7.re [2,3,0,1]
theorem afS {p:Nat} {G:Gr} (O:Sat W w (dQ p G::L)) (hG:G.Ok) (n:Int):
  Calls Tryz.prog 155 #[.pointer (some ⟨p,0,none⟩), .int .i64 n] w fun e w'=>∃v,e= .returned v/\Sat W w' (Ir v (G.ym n)::dQ p G::L):=by
 cases hb:G.is n
 ·have HB:=Z (show(!G.is n)=true by rw[hb];rfl);have HF:=Z (show G.ym n=[] by unfold Gr.ym;rw[if_neg (by simp[hb])]);rw[HF.F];go_enter Tryz.func155,Tryz.ntmps155;go_wp2
  go_step3
  go_wp2_with (go_at_call 145;refine ak (qA O n HB.F) ?_;rintro J rfl)
  rw[Exit.noGoto_ret];go_ret;exact⟨_,rfl,O.wh⟩
 have HB:=Z (show(!G.is n)=false by rw[hb];rfl);obtain⟨m,rfl,hm⟩:=Gr.xB hb;have HF:=Z (show G.ym (m:Int)=G.above m by unfold Gr.ym;rw[if_pos hb];rfl);clear hb;obtain⟨vn,vu,vd,gJ,iE,me,ml,hu,hd,hO⟩:=dQ.Oc O;have HU:=Z hu;have HD:=Z hd;clear hu hd;rw[HF.F];go_enter Tryz.func155,Tryz.ntmps155;go_wp2;refine UK 0 (fun a' w'=>∃(i:Nat) (l:List Nat) (vl:Value) (bs:Nat) (u9 u17 u18 u19 u20 u21 u22 u23 u24 u25 u26 u27 u28 u29 u30 u31 u32 u33 u34 u35 u36 u37 u38 u39 u40 u41 u42 u43 u44 u45 u46 u47 u48 u49:Value),Wk G m l i/\Sat W w' (Ir vl l::Mp (Value.int .i64) bw bs (zL l)::Cs p 202 [vn,vu,vd, .map (some me), .map (some ml)]::Tb 214 6 nv vn G.N::Tb 88 1 eF vu gJ::St (List.zipWith iU gJ G.ku)::Tb 88 1 eF vd iE::St (List.zipWith iU iE G.kE)::Mp ek bw me G.pI::Mp ek nw ml G.nO::L)/\a'= {tmps:= #[.pointer (some ⟨p,0,none⟩), .int .i64 (m:Int),undef,undef, .slice none 0 0, .map (some bs),vl, .int .i64 (i:Int),undef,u9, .pointer (some ⟨p,0,none⟩), .int .i64 (m:Int), .bool false, .map (some bs), .int .i64 (m:Int), .map (some bs), .int .i64 (m:Int),u17,u18,u19,u20,u21,u22,u23,u24,u25,u26,u27,u28,u29,u30,u31,u32,u33,u34,u35,u36,u37,u38,u39,u40,u41,u42,u43,u44,u45,u46,u47,u48,u49,undef,undef,undef],defers:=[]}) (fun a' _=>G.N.length-(intOf (a'.tmps.getD 7 undef)).toNat) rfl ?_ ?_
 ·clear hO O;rintro a' w' ⟨i,l,vl,bs,u9,u17,u18,u19,u20,u21,u22,u23,u24,u25,u26,u27,u28,u29,u30,u31,u32,u33,u34,u35,u36,u37,u38,u39,u40,u41,u42,u43,u44,u45,u46,u47,u48,u49,hW,O,rfl⟩;have hll:=hW.len;have hgl:=hG.len;obtain⟨aol,cl0,rfl,_⟩:=O.mg (k:=0) rfl
  by_cases hlt:i<l.length
  ·obtain⟨x,V⟩:∃x,l[i]? =some x:=⟨_,aR hlt⟩
   have hxl:=hW.low x (bJ V);obtain⟨vx,BM⟩:∃v,gJ[x]? =some v:=⟨_,aR (by rw[HU.F,Gr.K8];exact hxl)⟩
   have Sr:=Gr.Uz hxl;obtain⟨L1,hrow⟩:=NA (k:=5) O rfl BM Sr;obtain⟨QX,cx,rfl,_⟩:=hrow.mg (k:=0) rfl
   have Ji:∀w (L':List aA),Sat W w (St (List.zipWith iU gJ G.ku)::L')->Rd w (.slice QX (G.ups x).length cx) (G.ups x).length 1 (iv (G.ups x)):=fun w L' h=>by
    obtain⟨_,H⟩:=NA (k:=0) h rfl BM Sr;exact H.oG (k:=0) rfl
   have Ji:=Z Ji;have hul:=Gr.acY G x;have HX:=Z V;have Mg:=Z BM;have HW:=Z hW;have iD:=Z (show gJ.length=G.N.length by rw[HU.F,Gr.K8]);have hsu:(x:Int)< (gJ.length:Int):=by rw[iD.F];omega
   obtain⟨bu,Tk,cu,rfl,_⟩:=O.pX (k:=4) rfl (by rw[iD.F];omega);obtain⟨bl,ofl,cl1,he,_⟩:=O.kV (k:=0) (E:=0) (sz:=1) rfl (by omega);obtain⟨rfl,rfl⟩:=gq he;have j1:(i:Int)< (l.length:Int):=by omega
   have j2:(l.length:Int)<=4096:=by omega
   have j3:((G.ups x).length:Int)<=4096:=by omega
   have e1:decide (i<l.length)=true:=bL hlt;have e2:decide ((i:Int)< (l.length:Int))=true:=bL j1;clear V BM Sr hrow hW hlt;go_wp2
   (refine cB (pO [0,1,2]<|rO [3]<|pO [4,5,6]<|rO [7]<|pO [8]<|rO [9]<|pO [10,11]<| .e) [] O ?_;clear O;intro J O)
   repeat (first
    |(refine bG O ?_;go_frame)
    |(refine bR O ?_;(first
       |refine qV ?_
       |refine⟨_,FN _ _ (by rfl) _ _ (by rfl) (aI (by rfl)) (E:=0) (sz:=1) (vs:=iv l) aa i (by omega) (qw HX.F),?_⟩
       |refine⟨_,AX (f:=eF) (x:= .slice QX (G.ups x).length cx) _ _ (by rfl) _ _ (by rfl) (aI (by rfl)) fD x 0 (by omega) Mg.F (by rfl),?_⟩);go_frame))
   refine bO ?_;go_wp2;go_loopw [6,33] (fun v6 v33 wz=>∃(j:Nat) (l':List Nat),v33= .int .i64 (j:Int)/\j<=(G.ups x).length/\Wk G m l' i/\l'[i]? =some x/\(∀y∈(G.ups x).take j,y∈l')/\Sat W wz (Ir v6 l'::Mp (Value.int .i64) bw bs (zL l')::Cs p 202 [vn, .slice (some ⟨bu,Tk,none⟩) gJ.length cu,vd, .map (some me), .map (some ml)]::Tb 214 6 nv vn G.N::Tb 88 1 eF (.slice (some ⟨bu,Tk,none⟩) gJ.length cu) gJ::St (List.zipWith iU gJ G.ku)::Tb 88 1 eF vd iE::St (List.zipWith iU iE G.kE)::Mp ek bw me G.pI::Mp ek nw ml G.nO::L)) (fun _ v33 _=>(G.ups x).length-(intOf v33).toNat)
   case atStart=>exact⟨0,l,rfl,eG _,HW.F,HX.F,by simp,O⟩
   case round=>
    clear O;obtain⟨j,l',rfl,hj,hW',hx',hin,O⟩:=hrel;have hl2:=hW'.len;have hi2:=(bZ.1 hx').1
    by_cases hlt:j< (G.ups x).length
    ·obtain⟨y,hy⟩:∃y,(G.ups x)[j]? =some y:=⟨_,aR hlt⟩
     have hym:=bJ hy;have HY:=Z hy;have HT:=Z (show(G.ups x).take (j+1)=(G.ups x).take j++[y] by rw[ik,hy];rfl)
     obtain⟨bx,ofx,rfl⟩:∃bx ofx,QX=some ⟨bx,ofx,none⟩:=by
      obtain⟨_,_,he,I,H,h3,h5⟩:=Ji.F _ _ (O.re [5]);obtain⟨b',o',h6,_⟩:=h5 (by omega);simp only[Value.slice.injEq] at he;exact⟨b',o',by rw[he.1,h6]⟩
     have k1:(j:Int)< ((G.ups x).length:Int):=by omega
     have k2:(l'.length:Int)<=4096:=by omega
     have ay:=Z hlt;have aM:=Z (show l'.length<=4096 by omega);clear hy hlt
     by_cases hy':y∈l'
     ·have jK:=Z (am1 hy')
      go_wp2_with (first
       |(refine bB O ?_)
       |(refine bN (fF (Ji.F _ _ (O.re [5])) _ _ (by rfl) _ (by rfl) (aI (by rfl)) j (by omega) (qw HY.F) (by omega)) ?_)
       |(refine bN (FC O _ _ _ false (by rfl) (by rfl) (y:Int) (by rfl) NL NF (Co (by rfl)) hz1) ?_;rw[if_neg (by decide),jK.F]))
      exact⟨⟨j+1,l',by go_num,ay.F,hW',hx',fun z hz=>by rw[HT.F,gy,eD] at hz;rcases hz with hz|rfl;exact hin z hz;exact hy',O⟩,by simp[intOf];omega⟩
     ·have jK:=Z (amY hy');have HA:=Z (show Aa l' y=l'++[y] by unfold Aa;rw[if_neg hy']);have Eh:=Z (hW'.add hG hx' hym);have VM:=Z (Wt (y:=y) hx')
      go_wp2_with (first
       |(refine bB O ?_)
       |(refine bN (fF (Ji.F _ _ (O.re [5])) _ _ (by rfl) _ (by rfl) (aI (by rfl)) j (by omega) (qw HY.F) (by omega)) ?_)
       |(refine bN (FC O _ _ _ false (by rfl) (by rfl) (y:Int) (by rfl) NL NF (Co (by rfl)) hz1) ?_;rw[if_neg (by decide),jK.F])
       |(refine aU ?_;refine Kk (ke:=Value.int .i64) (ve:=bw) O _ _ _ _ (.inl (by rfl)) (by rfl) (y:Int) (by rfl) true (by rfl) NL NF hz1 ?_;clear O;intro J O;dsimp only[aD,aN] at O;rw[am0] at O)
       |(refine il [.int .i64 y] O ?_ (hc:=by simp[Value.cells]);clear O;intro b1 J O;rw[jC rfl] at O)
       |(refine aU ?_;refine rz (m:=[y]) O _ _ _ _ (by rfl) (by rfl) (by rfl) (bS (by rfl)) (by rfl) (by rfl) (by rfl) (dO (by rfl)) hz1 (by exact O.jc (n:=1) (sz:=1) aa (by decide) rfl) (by have:=aM.F;rw[dC];omega) ?_;clear O;intro v1 J O;dsimp only[aD,aN] at O;rw[<-HA.F] at O))
      exact⟨⟨j+1,Aa l' y,by go_num,ay.F,Eh.F,VM.F,fun z hz=>by rw[HT.F,gy,eD] at hz;exact Ke.2 (hz.imp_left (hin z)),O.drop⟩,by simp[intOf];omega⟩
    ·obtain rfl:j=(G.ups x).length:=by omega
     rw[List.take_length] at hin;have HN:=Z (hW'.next hG hx' hin);have k2:(i:Int)<4096:=by omega
     clear hin hlt hj;go_wp2
     go_step3
     refine And.intro rfl (And.intro ⟨i+1,l',_,bs,_,_,_,_,_,_,_,_,_,_,_,_,_,_,_,_,_,_,_,_,_,_,_,_,_,_,_,_,_,_,_,_,_,_,HN.F,O,rfl⟩ ?_);simp[intOf];omega
  ·have hil:i=l.length:=by have:=hW.le;omega
   have tT:=Z (hW.ahg hil);have e1:decide (i<l.length)=false:=bf hlt;have e2:decide ((i:Int)< (l.length:Int))=false:=bf (by omega);clear hlt hil hW
   go_wp2_with (go_at_call 163;refine ak (anb O (by omega)) ?_;clear O;intro J O)
   simp only[Exit.jump];go_ret;rw[tT.F] at O;exact⟨_,rfl,Sat.bW (dQ.aar HU.F HD.F (O.bW.drop.re [1,2,3,4,5,6,7,8,0]))⟩
 ·intro HP
  go_wp2_with (first
   |(go_at_call 145;refine ak (qA O m HB.F) ?_;rintro J rfl)
   |(refine aU ?_;refine S9 (Value.int .i64) bw hO _ (by rfl) ?_;intro bs J hS1;clear hO;have hO:=hS1;clear hS1)
   |(refine aU ?_;refine Kk (ke:=Value.int .i64) (ve:=bw) hO _ _ _ _ (.inr (by rfl)) (by rfl) (m:Int) (by rfl) true (by rfl) NL NF aa ?_;intro J hS1;clear hO;have hO:=hS1;clear hS1;dsimp only[aD] at hO;rw[amZ] at hO)
   |(refine il [.int .i64 m] hO ?_ (hc:=by simp[Value.cells]);intro b1 J hS1;clear hO;have hO:=hS1;clear hS1;rw[jC rfl] at hO))
  go_step3
  rename_i K hK
  exact hK _ _ (HP _ _ ⟨0,[m],_,bs,_,_,_,_,_,_,_,_,_,_,_,_,_,_,_,_,_,_,_,_,_,_,_,_,_,_,_,_,_,_,_,_,_,_,Wk.start hm,Sat.pW (n:=1) (sz:=1) (cap:=1) (off:=0) (pre:=[]) (vs:=iv [m]) (rest:=[]) hO (aZ _) (by decide) rfl rfl (aZ 1),rfl⟩)
theorem Gr.afR {G:Gr} (n:Int):(G.ym n).length<=G.N.length:=by
 unfold Gr.ym
 split
 ·exact Gr.afT G _
 ·exact eG _
theorem abC {p:Nat} {G:Gr} (O:Sat W w (dQ p G::L)) (hG:G.Ok) (a b:Int):
  Calls Tryz.prog 146 #[.pointer (some ⟨p,0,none⟩), .int .i64 a, .int .i64 b] w fun e w'=>e= .returned (.bool (G.reaches a b))/\Sat W w' (dQ p G::L):=by
 have HL:=Z (show(G.ym a).length<=1000000 by have:=hG.len;have:=Gr.afR (G:=G) a;omega);obtain⟨r,hr⟩:=au (G.reaches a b);have HR:=Z (show(G.ym a).any (fun y=>decide ((y:Int)=b))=r from hr);rw[hr];clear hr;go_enter Tryz.func146,Tryz.ntmps146
 go_wp2_with (first
  |(go_at_call 155;refine(afS O hG a).mono ?_;clear O;rintro e J ⟨v1,rfl,O⟩;obtain⟨xe,c1,rfl,_⟩:=O.mg (k:=0) rfl)
  |(go_at_call 154;refine ak (agU O _ _ _ (O.oG (k:=0) rfl) HL.F b HR.F) ?_;rintro J rfl))
 go_ret;exact⟨rfl,O.drop⟩
open Go.Sep
theorem ajm {y:Nat} {l:List Nat} (hs:(y::l).Pairwise (· < ·)) (x:Nat):ins (y::l) x=if y<x then y::ins l x else x::y::l:=by
 unfold ins yC;rw[List.pairwise_cons] at hs
 by_cases h:y<x
 ·rw[if_pos h,List.countP_cons_of_pos (by simpa using h)];rfl
 ·rw[if_neg h,List.countP_cons_of_neg (by simpa using h)];have h0:l.countP (fun z=>decide (z<x))=0:=List.countP_eq_zero.2 fun z hz=>by have:=hs.1 z hz;simp;omega
  rw[h0];rfl
theorem SB {x z:Nat} {l:List Nat} :z∈ins l x↔z=x∨z∈l:=by
 unfold ins yC;rw[gy,oK]
 conv=>rhs;rw[<-rR (l.countP (· <x)) l,gy]
 constructor
 ·rintro(h|rfl|h)
  ·exact .inr (.inl h)
  ·exact .inl rfl
  ·exact .inr (.inr h)
 ·rintro(rfl|h|h)
  ·exact .inr (.inl rfl)
  ·exact .inl h
  ·exact .inr (.inr h)
theorem SA:∀ {l:List Nat} {x:Nat},l.Pairwise (· < ·)->x∉l->(ins l x).Pairwise (· < ·)
 |[],x,_,_=>by simp[ins,yC]
 |y::l,x,hs,V=>by
  rw[ajm hs];have hs':=List.pairwise_cons.1 hs;have hne:y≠x:=fun e=>V (e▸List.mem_cons_self ..)
  split
  ·rename_i h
   rw[List.pairwise_cons];refine⟨fun z hz=>?_,SA hs'.2 fun H=>V (List.mem_cons_of_mem _ H)⟩
   rcases SB.1 hz with rfl|hz
   ·exact h
   ·exact hs'.1 z hz
  ·rename_i h
   rw[List.pairwise_cons];refine⟨fun z hz=>?_,hs⟩
   rcases oK.1 hz with rfl|hz
   ·omega
   ·have:=hs'.1 z hz;omega
theorem ZG (l:List Nat) (x:Nat):ins l x≠[]:=by unfold ins yC;simp
namespace Gr
def link (G:Gr) (a b:Nat):Gr:=⟨G.N,G.E++[(a,b)]⟩
theorem K9 (G:Gr) (n:Nat):(G.ups n).Pairwise (· < ·):=List.Pairwise.filter _ List.pairwise_lt_range
theorem JC (G:Gr) (n:Nat):(G.oz n).Pairwise (· < ·):=List.Pairwise.filter _ List.pairwise_lt_range
theorem ajL {G:Gr} {a b:Nat} (hb:b<G.N.length) (hn:(a,b)∉G.E) (n:Nat):(G.link a b).ups n=if n=a then ins (G.ups a) b else G.ups n:=by
 split
 ·rename_i h
  subst h;refine Iz (K9 _ _) (SA (K9 _ _) fun h=>hn (Di.1 h).2) fun z=>?_
  rw[SB,Di,Di];simp only[link,gy,eD,Prod.mk.injEq,true_and]
  constructor
  ·rintro⟨I,H|H⟩
   ·exact .inr ⟨I,H⟩
   ·exact .inl H
  ·rintro(rfl|⟨I,H⟩)
   ·exact⟨hb, .inr rfl⟩
   ·exact⟨I, .inl H⟩
 ·rename_i h
  refine Iz (K9 _ _) (K9 _ _) fun z=>?_
  rw[Di,Di];simp only[link,gy,eD,Prod.mk.injEq]
  constructor
  ·rintro⟨I,H|H⟩
   ·exact⟨I,H⟩
   ·exact absurd H.1 h
  ·exact fun⟨I,H⟩=>⟨I, .inl H⟩
theorem ajI {G:Gr} {a b:Nat} (ha:a<G.N.length) (hn:(a,b)∉G.E) (n:Nat):(G.link a b).oz n=if n=b then ins (G.oz b) a else G.oz n:=by
 split
 ·rename_i h
  subst h;refine Iz (JC _ _) (SA (JC _ _) fun h=>hn (Kh.1 h).2) fun z=>?_
  rw[SB,Kh,Kh];simp only[link,gy,eD,Prod.mk.injEq,and_true]
  constructor
  ·rintro⟨I,H|H⟩
   ·exact .inr ⟨I,H⟩
   ·exact .inl H
  ·rintro(rfl|⟨I,H⟩)
   ·exact⟨ha, .inr rfl⟩
   ·exact⟨I, .inl H⟩
 ·rename_i h
  refine Iz (JC _ _) (JC _ _) fun z=>?_
  rw[Kh,Kh];simp only[link,gy,eD,Prod.mk.injEq]
  constructor
  ·rintro⟨I,H|H⟩
   ·exact⟨I,H⟩
   ·exact absurd H.2 h
  ·exact fun⟨I,H⟩=>⟨I, .inl H⟩
theorem aag {f g:Nat->List Nat} {n i:Nat} {v:List Nat} (hi:i<n) (h:∀k,g k=if k=i then v else f k):(List.range n).map g=((List.range n).map f).set i v:=by
 apply List.ext_getElem?;intro k;simp only[kY,yX,qa,List.length_range]
 by_cases hk:k<n
 ·rw[List.getElem?_range hk,Option.map_some,h k]
  by_cases hik:i=k
  ·subst hik;rw[if_pos rfl,if_pos rfl,if_pos hi]
  ·rw[if_neg (fun e=>hik e.symm),if_neg hik];rfl
 ·rw[qE (by simpa using hk),if_neg (by omega)];rfl
theorem ZZ {G:Gr} {a b:Nat} (ha:a<G.N.length) (hb:b<G.N.length) (hn:(a,b)∉G.E):(G.link a b).ku=G.ku.set a (ins (G.ups a) b):=
 aag (f:=G.ups) (g:=(G.link a b).ups) (n:=G.N.length) ha (ajL hb hn)
theorem ZY {G:Gr} {a b:Nat} (ha:a<G.N.length) (hb:b<G.N.length) (hn:(a,b)∉G.E):(G.link a b).kE=G.kE.set b (ins (G.oz b) a):=
 aag (f:=G.oz) (g:=(G.link a b).oz) (n:=G.N.length) hb (ajI ha hn)
theorem aiB {G:Gr} {a b:Nat} :G.has ((a:Int),(b:Int))=true↔(a,b)∈G.E:=by
 unfold has;rw[List.any_eq_true]
 constructor
 ·rintro⟨⟨x,y⟩,V,he⟩;simp only[ed,decide_eq_true_eq] at he;obtain⟨I,H⟩:=he;obtain rfl:x=a:=by omega
  obtain rfl:y=b:=by omega
  exact V
 ·exact fun h=>⟨_,h,by simp⟩
theorem ajJ (G:Gr) (a b:Nat):(fun q:Int×Int=>if q=((a:Int),(b:Int)) then some true else G.pI q)=(G.link a b).pI:=by
 funext q;unfold pI has link;rw[List.any_append];simp only[List.any_cons,List.any_nil,Bool.or_false]
 by_cases h:q=((a:Int),(b:Int))
 ·subst h;simp
 ·rw[if_neg h]
  have H:(decide ((a:Int)=q.1)&&decide ((b:Int)=q.2))=false:=by
   cases h3:(decide ((a:Int)=q.1)&&decide ((b:Int)=q.2)) with
   |false=>rfl
   |true=>
    simp only[ed,decide_eq_true_eq] at h3;exact absurd (Prod.ext h3.1.symm h3.2.symm) h
  rw[H,Bool.or_false]
theorem ajK {G:Gr} (hG:G.Ok) {a b:Nat} (ha:a<G.N.length) (hb:b<G.N.length) (hn:(a,b)∉G.E) (hl:G.E.length<1000000):(G.link a b).Ok where
 len:=hG.len
 low:=fun e he=>by
  simp only[link,gy,eD] at he
  rcases he with he|rfl
  ·exact hG.low e he
  ·exact⟨ha,hb⟩
 BB:=by simp[link];omega
 one:=by
  simp only[link];rw[lZ];exact⟨hG.one,by simp,fun x V y hy=>by rw[eD.1 hy];rintro rfl;exact hn V⟩
 marks:=hG.marks
 DL:=hG.DL
end Gr
noncomputable def Gr.j5 (G:Gr) (a b:Int):Int:=if !G.is a || !G.is b || decide (a=b) then 1 else if G.has (a,b) then 23 else if G.reaches b a then 11 else 0
noncomputable def Gr.oZ (G:Gr) (a b:Int):Gr:=if G.j5 a b=0 then G.link a.toNat b.toNat else G
theorem Gr.Rt {G:Gr} {a b:Int} (h:G.j5 a b=0):∃x y:Nat,a=x/\b=y/\x<G.N.length/\y<G.N.length/\x≠y/\(x,y)∉G.E/\¬G.Reach y x:=by
 unfold Gr.j5 at h
 split at h
 ·cases h
 ·rename_i I
  simp only[Bool.or_eq_true,Bool.not_eq_true',decide_eq_true_eq,not_or,Bool.not_eq_false] at I;obtain⟨⟨I,H⟩,h3⟩:=I;obtain⟨x,rfl,V⟩:=Gr.xB I;obtain⟨y,rfl,hy⟩:=Gr.xB H
  split at h
  ·cases h
  ·rename_i h4
   split at h
   ·cases h
   ·rename_i h5
    refine⟨x,y,rfl,rfl,V,hy,by omega,fun he=>h4 (Gr.aiB.2 he),fun hr=>h5 ?_⟩;unfold Gr.reaches Gr.ym;rw[if_pos H];exact List.any_eq_true.2 ⟨x,Gr.NQ.2 ⟨V,hr⟩,by simp⟩
theorem Gr.aho {G:Gr} (hG:G.Ok) (a b:Int) (hl:G.E.length<1000000):(G.oZ a b).Ok:=by
 unfold Gr.oZ
 split
 ·rename_i h
  obtain⟨x,y,rfl,rfl,V,hy,_,hn,_⟩:=Gr.Rt h;exact Gr.ajK hG V hy hn hl
 ·exact hG
theorem dQ.link {p:Nat} {G:Gr} {a b:Nat} (ha:a<G.N.length) (hb:b<G.N.length) (hn:(a,b)∉G.E) {vn vu vd v1 v2:Value} {gJ iE:List Value} {me ml:Nat} (hu:gJ.length=G.ku.length) (hd:iE.length=G.kE.length)
  (h:Sat W w (Cs p 202 [vn,vu,vd, .map (some me), .map (some ml)]::Tb 88 1 eF vu (gJ.set a v1)::Tb 88 1 eF vd (iE.set b v2)::Ir v1 (ins (G.ups a) b)::Ir v2 (ins (G.oz b) a)::Tb 214 6 nv vn G.N::St (List.zipWith iU gJ G.ku)::
   St (List.zipWith iU iE G.kE)::Mp ek bw me (G.link a b).pI::Mp ek nw ml G.nO::L)):Sat W w (dQ p (G.link a b)::L):=by
 refine dQ.aar (vn:=vn) (vu:=vu) (vd:=vd) (gJ:=gJ.set a v1) (iE:=iE.set b v2) (me:=me) (ml:=ml) ?_ ?_ ?_
 ·rw[Gr.ZZ ha hb hn,gV,gV];exact hu
 ·rw[Gr.ZY ha hb hn,gV,gV];exact hd
 rw[Gr.ZZ ha hb hn,Gr.ZY ha hb hn,adu,adu];have I:=SE (fun e=>absurd e (ZG _ _)) (h.re [3]);have H:=Sat.aco (i:=a) (I.re [0,6]) (by rw[List.length_zipWith,hu,Nat.min_self,Gr.K8];exact ha);have h3:=SE (fun e=>absurd e (ZG _ _)) (H.re [4]);have h4:=Sat.aco (i:=b) (h3.re [0,6]) (by rw[List.length_zipWith,hd,Nat.min_self,Gr.Rq];exact hb);exact h4.re [2,5,3,1,4,0]
theorem take3 {W w:World} {A B C:aA} :∀ {L:List aA},Sat W w (A::B::C::L)->Sat W w [A,B,C]
 |[],h=>h
 |_::_,h=>take3 h.ak4.drop
theorem ak5 {W w:World} {A B C D:aA} {L:List aA} (h:Sat W w (A::B::C::D::L)):Sat W w (B::C::D::A::L):=h.re [1,2,3]
theorem ak6 {W w:World} {A B C D E:aA} {L:List aA} (h:Sat W w (A::B::C::D::E::L)):Sat W w (B::C::D::E::A::L):=h.re [1,2,3,4]
theorem dQ.aky {p:Nat} {G:Gr} (h:Sat W w (dQ p G::L)):∃vn vu vd gJ iE me ml,gJ.length=G.ku.length/\iE.length=G.kE.length/\
  Sat W w (Cs p 202 [vn,vu,vd, .map (some me), .map (some ml)]::Tb 88 1 eF vu gJ::Tb 88 1 eF vd iE::Tb 214 6 nv vn G.N::St (List.zipWith iU gJ G.ku)::
   St (List.zipWith iU iE G.kE)::Mp ek bw me G.pI::Mp ek nw ml G.nO::L):=by
 obtain⟨vn,vu,vd,gJ,iE,me,ml,hu,hd,hO⟩:=dQ.Oc h;exact⟨vn,vu,vd,gJ,iE,me,ml,hu,hd,hO.re [0,2,4,1,3,5]⟩
theorem ahp {p:Nat} {G:Gr} (O:Sat W w (dQ p G::L)) (hG:G.Ok) (a b:Int):
  Calls Tryz.prog 127 #[.pointer (some ⟨p,0,none⟩), .int .i64 a, .int .i64 b] w fun e w'=>e= .returned (.int .i64 (G.j5 a b))/\Sat W w' (dQ p (G.oZ a b)::L):=by
 cases ha:G.is a
 ·have HE:=Z (show G.j5 a b=1 by unfold Gr.j5;rw[if_pos (by simp[ha])]);have HB:=Z (show(!G.is a)=true by rw[ha];rfl);unfold Gr.oZ;rw[HE.F,if_neg (by decide)];clear ha;go_enter Tryz.func127,Tryz.ntmps127
  go_wp2_with (go_at_call 145;refine ak (qA O a HB.F) ?_;rintro J rfl)
  go_ret;exact⟨rfl,O⟩
 have HA:=Z (show(!G.is a)=false by rw[ha];rfl)
 cases hb:G.is b
 ·have HE:=Z (show G.j5 a b=1 by unfold Gr.j5;rw[if_pos (by simp[hb])]);have HB:=Z (show(!G.is b)=true by rw[hb];rfl);unfold Gr.oZ;rw[HE.F,if_neg (by decide)];clear ha hb;go_enter Tryz.func127,Tryz.ntmps127
  go_wp2_with (first
   |(go_at_call 145;refine ak (qA O a HA.F) ?_;rintro J rfl)
   |(go_at_call 145;refine ak (qA O b HB.F) ?_;rintro J rfl))
  go_ret;exact⟨rfl,O⟩
 have HB:=Z (show(!G.is b)=false by rw[hb];rfl)
 by_cases hab:a=b
 ·have HE:=Z (show G.j5 a b=1 by unfold Gr.j5;rw[if_pos (by simp[hab])]);have e1:(a==b)=true:=beq_iff_eq.2 hab;unfold Gr.oZ;rw[HE.F,if_neg (by decide)];clear ha hb hab;go_enter Tryz.func127,Tryz.ntmps127
  go_wp2_with (first
   |(go_at_call 145;refine ak (qA O a HA.F) ?_;rintro J rfl)
   |(go_at_call 145;refine ak (qA O b HB.F) ?_;rintro J rfl))
  go_ret;exact⟨rfl,O⟩
 have e1:(a==b)=false:=dH.2 hab;have HT:(!G.is a || !G.is b || decide (a=b))=false:=by rw[ha,hb,bf hab];rfl
 clear ha hb hab;obtain⟨vn,vu,vd,gJ,iE,me,ml,hu,hd,hO⟩:=dQ.Oc O
 cases hh:G.has (a,b) with
 |true=>
  have HE:=Z (show G.j5 a b=23 by unfold Gr.j5;rw[HT,hh];rfl);have HV:=Z (show yJ bw (.bool false) (G.pI (a,b))= .bool true by unfold Gr.pI;rw[hh];rfl);unfold Gr.oZ;rw[HE.F,if_neg (by decide)];clear HT hh;go_enter Tryz.func127,Tryz.ntmps127
  go_wp2_with (first
   |(go_at_call 145;refine ak (qA O a HA.F) ?_;rintro J rfl)
   |(go_at_call 145;refine ak (qA O b HB.F) ?_;rintro J rfl)
   |(refine bB hO ?_ (hk:=aa))
   |(refine bN (FC hO _ _ _ false (by rfl) (by rfl) (a,b) (by rfl) NJ ND (Co (by rfl)) BN) ?_;rw[if_neg (by decide),HV.F]))
  go_ret;exact⟨rfl,O⟩
 |false=>
  have HV:=Z (show yJ bw (.bool false) (G.pI (a,b))= .bool false by unfold Gr.pI;rw[hh];rfl)
  cases hr:G.reaches b a with
  |true=>
   have HE:=Z (show G.j5 a b=11 by unfold Gr.j5;rw[HT,hh,hr];rfl);have oQ:=Z (fun w (h:Sat W w (dQ p G::L))=>hr▸abC h hG b a);unfold Gr.oZ;rw[HE.F,if_neg (by decide)];clear HT hh hr;go_enter Tryz.func127,Tryz.ntmps127
   go_wp2_with (first
    |(go_at_call 145;refine ak (qA O a HA.F) ?_;rintro J rfl)
    |(go_at_call 145;refine ak (qA O b HB.F) ?_;rintro J rfl)
    |(refine bB hO ?_ (hk:=aa))
    |(refine bN (FC hO _ _ _ false (by rfl) (by rfl) (a,b) (by rfl) NJ ND (Co (by rfl)) BN) ?_;rw[if_neg (by decide),HV.F])
    |(go_at_call 146;refine(oQ.F _ O).mono ?_;rintro e J ⟨rfl,hS1⟩;clear hO;clear O;have O:=hS1;clear hS1))
   go_ret;exact⟨rfl,O⟩
  |false=>
   have hE:G.j5 a b=0:=by unfold Gr.j5;rw[HT,hh,hr];rfl
   have oQ:=Z (fun w (h:Sat W w (dQ p G::L))=>hr▸abC h hG b a);obtain⟨x,y,rfl,rfl,V,hy,_,hn,_⟩:=Gr.Rt hE;have HE:=Z hE;have HN:=Z hn;have HX:=Z V;have HY:=Z hy;have hgl:=hG.len;have CK:=Z (show(G.ups x).length<=999999 by have:=Gr.acY G x;omega);have mW:=Z (show(G.oz y).length<=999999 by have:=Gr.ahi G y;omega);have Jk:=Z ((Gr.K9 G x).imp (fun {a b:Nat} (h:a<b)=>Nat.le_of_lt h));have I4:=Z ((Gr.JC G y).imp (fun {a b:Nat} (h:a<b)=>Nat.le_of_lt h));have hgi:(G.N.length:Int)<=4096:=by omega
   have hxi:(x:Int)< (G.N.length:Int):=by omega
   have hyi:(y:Int)< (G.N.length:Int):=by omega
   unfold Gr.oZ;rw[HE.F,if_pos rfl,fu,fu];clear HT hh hr hE hn hu hd V hy hgl;go_enter Tryz.func127,Tryz.ntmps127
   go_wp2_with (first
    |(go_at_call 145;refine ak (qA O x HA.F) ?_;rintro J rfl)
    |(go_at_call 145;refine ak (qA O y HB.F) ?_;rintro J rfl)
    |(refine bB hO ?_ (hk:=aa))
    |(refine bN (FC hO _ _ _ false (by rfl) (by rfl) ((x:Int),(y:Int)) (by rfl) NJ ND (Co (by rfl)) BN) ?_;rw[if_neg (by decide),HV.F])
    |(go_at_call 146;refine(oQ.F _ O).mono ?_;rintro e J ⟨rfl,hS1⟩;clear hO;clear O;have O:=hS1;clear hS1;obtain⟨vn,vu,vd,gJ,iE,me,ml,hu,hd,hS1⟩:=dQ.aky O;clear O;have O:=hS1;clear hS1;have HU:=Z hu;have HD:=Z hd;clear hu hd)
    |(refine bB O ?_)
    |(refine aU ?_;refine Kk (ke:=ek) (ve:=bw) O _ _ _ _ (.inl (by rfl)) (by rfl) ((x:Int),(y:Int)) (by rfl) true (by rfl) NJ ND BN ?_;clear O;intro J O;dsimp only[aD,aN] at O;rw[Gr.ajJ] at O))
   have hsu:gJ.length=G.N.length:=by rw[HU.F,Gr.K8]
   have hsd:iE.length=G.N.length:=by rw[HD.F,Gr.Rq]
   obtain⟨vx,BM⟩:∃v,gJ[x]? =some v:=⟨_,aR (by omega)⟩
   obtain⟨vy,Nv⟩:∃v,iE[y]? =some v:=⟨_,aR (by omega)⟩
   have Qz:∀w (L':List aA),Sat W w (St (List.zipWith iU gJ G.ku)::L')->Rd w vx (G.ups x).length 1 (iv (G.ups x)):=fun w L' h=>by
    obtain⟨_,H⟩:=NA (k:=0) h rfl BM (Gr.Uz HX.F);exact H.oG (k:=0) rfl
   have iB:∀w (L':List aA),Sat W w (St (List.zipWith iU iE G.kE)::L')->Rd w vy (G.oz y).length 1 (iv (G.oz y)):=fun w L' h=>by
    obtain⟨_,H⟩:=NA (k:=0) h rfl Nv (Gr.XJ HY.F);exact H.oG (k:=0) rfl
   have Qz:=Z Qz;have iB:=Z iB;have HZU:=Z (ZK (k:=4) O rfl BM (Gr.Uz HX.F));have HZD:=Z (ZK (k:=5) O rfl Nv (Gr.XJ HY.F));have Mg:=Z BM;have VH:=Z Nv;obtain⟨bu,Tk,cu,rfl,_⟩:=O.pX (k:=1) rfl (by omega);obtain⟨bd,ofd,cd,rfl,_⟩:=O.pX (k:=2) rfl (by omega);have j1:(x:Int)< (gJ.length:Int):=by omega
   have j2:(y:Int)< (iE.length:Int):=by omega
   clear hsu hsd BM Nv
   (refine ll (pO [0,1,2]<|rO [3]<|pO [4,5,6,7]<|rO [8]<|pO [9,10,11,12]<|rO [13]<|pO [14,15]<|rO [16]<|pO [17,19,20,21]<|rO [22]<|pO [23,24]<|rO [25]<|pO [26]<|aO [18,27]<|pO [28]<|aO [29]<|pO [30]<|aO [31]<| .e) [29,31] O (fun _ h=>take3 h) ?_;clear O;intro J O)
   repeat (first
    |(refine bG O ?_ (hL:=fun _ h=>by first|exact h|exact take3 h|(exact take3 h));go_frame)
    |(refine bR O ?_ (hL:=fun _ h=>by first|exact h|exact take3 h|(exact take3 h));(first
       |refine qV ?_
       |refine⟨_,AX (f:=eF) (x:=vx) _ _ (by rfl) _ _ (by rfl) (aI (by rfl)) hz1 x 0 (by omega) Mg.F (by rfl),?_⟩
       |refine⟨_,AX (f:=eF) (x:=vy) _ _ (by rfl) _ _ (by rfl) (aI (by rfl)) hz2 y 0 (by omega) VH.F (by rfl),?_⟩);go_frame)
    |(refine bY fun K hK=>?_;(first
       |(refine cK (adb O (fun w h=>Qz.F w _ (h.re [4])) CK.F HZU.F Jk.F y) ?_;clear O;rintro e J ⟨v1,rfl,O⟩;obtain⟨xe,c1,rfl,_⟩:=O.mg (k:=0) rfl;have hS1:=ak5 O;clear O;have O:=hS1;clear hS1;refine⟨_,rfl,?_⟩)
       |(refine cK (adb O (fun w h=>iB.F w _ (h.re [6])) mW.F HZD.F I4.F x) ?_;clear O;rintro e J ⟨v2,rfl,O⟩;obtain⟨sS,c2,rfl,_⟩:=O.mg (k:=0) rfl;have hS1:=ak6 O;clear O;have O:=hS1;clear hS1;refine⟨_,rfl,?_⟩)
       |(refine DD (f:=eF) O _ _ _ (by rfl) _ _ (by rfl) (.slice xe _ c1) (by rfl) (by rfl) (bz (by rfl)) hz1 rfl x 0 (by omega) Mg.F _ (by rfl) (by decide) ?_;clear O;intro J O;dsimp only[aD,aN] at O)
       |(refine DD (f:=eF) O _ _ _ (by rfl) _ _ (by rfl) (.slice sS _ c2) (by rfl) (by rfl) (bz (by rfl)) hz2 rfl y 0 (by omega) VH.F _ (by rfl) (by decide) ?_;clear O;intro J O;dsimp only[aD,aN] at O));first|refine hK.gu O ?_|refine hK.gu O ?_ (.inr ⟨rfl,fun _ h=>by exact take3 h⟩);clear hK K;go_frame))
   refine bO ?_;go_wp2;go_ret;exact⟨rfl,dQ.link HX.F HY.F HN.F HU.F HD.F O⟩
theorem ami {k:IntKind} {a b:Int} (h:a=b):Ending.returned (.int k a)= .returned (.int k b):=by rw[h]
theorem akY (v n:Int) (hn:0<n):v % n=if v.tmod n<0 then v.tmod n+n else v.tmod n:=by
 have I:v % n=(v.tmod n) % n:=by
  conv=>lhs;rw[<-Int.tmod_add_mul_tdiv v n]
  rw[Int.add_mul_emod_self_left]
 have H:v.tmod n<n:=Int.tmod_lt_of_pos v hn
 have h3: -n<v.tmod n:=by
  have:=Int.tmod_lt_of_pos (-v) hn;rw[Int.neg_tmod] at this;omega
 rw[I]
 split
 ·rw[<-Int.add_emod_right,Int.emod_eq_of_lt (by omega) (by omega)]
 ·rw[Int.emod_eq_of_lt (by omega) (by omega)]
theorem Io (v n:Int) (hn:0<n) (hn2:n<=9223372036854775807) (w:World):
  Calls Tryz.prog 12 #[.int .i64 v, .int .i64 n] w fun e w'=>e= .returned (.int .i64 (v % n))/\w=w':=by
 have he:=akY v n hn
 have h3: -n<v.tmod n:=by
  have:=Int.tmod_lt_of_pos (-v) hn;rw[Int.neg_tmod] at this;omega
 have H:v.tmod n<n:=Int.tmod_lt_of_pos v hn;have He:=Z he;clear he
 by_cases h:v.tmod n<0
 all_goals
  go_enter Tryz.func12,Tryz.ntmps12;go_wp2;go_ret;exact⟨ami (by rw[He.F];first|rw[if_pos (by omega)]|rw[if_neg (by omega)]),rfl⟩
namespace Gr
def aoT (G:Gr):Prop:=∀a b,(a,b)∈G.E->¬G.Reach b a
theorem ahn (G:Gr) (a b:Int):(G.oZ a b).E.length<=G.E.length+1:=by
 unfold oZ
 split
 ·simp[link]
 ·omega
end Gr
def ev (e:Nat×Nat):List Value:=[.int .i64 (e.1:Int), .int .i64 (e.2:Int)]
theorem ahB (l:List (Nat×Nat)):∀x∈l,(ev x).length=2:=fun _ _=>rfl
theorem ahC (l:List (Nat×Nat)):∀u∈l.flatMap ev,u.oneCell'=true:=fun u hu=>by
 obtain⟨x,_,hu⟩:=mE.1 hu;simp only[ev,oK,nE,or_false] at hu
 rcases hu with rfl|rfl<;>rfl
def dM (p:Nat) (G:Gr):aA:=
 Ex fun x:Value×Value=>St [Cs p 190 [x.1,x.2],Tb 214 6 nv x.1 G.N,Tb 218 2 ev x.2 G.E]
theorem dM.open {p:Nat} {G:Gr} (h:Sat W w (dM p G::L)):∃an cn ae ce,G.N.length<=cn/\G.E.length<=ce/\
  Sat W w (Cs p 190 [.slice an G.N.length cn, .slice ae G.E.length ce]::Tb 214 6 nv (.slice an G.N.length cn) G.N::Tb 218 2 ev (.slice ae G.E.length ce) G.E::L):=by
 obtain⟨⟨vn,ve⟩,h⟩:=h.ex;have H:Sat W w (Cs p 190 [vn,ve]::Tb 214 6 nv vn G.N::Tb 218 2 ev ve G.E::L):=h.open
 obtain⟨an,cn,rfl,hn⟩:=H.fA (k:=1) rfl;obtain⟨ae,ce,rfl,he⟩:=H.fA (k:=2) rfl;exact⟨an,cn,ae,ce,hn,he,H⟩
theorem dM.mk {p:Nat} {G:Gr} {vn ve:Value}
  (h:Sat W w (Cs p 190 [vn,ve]::Tb 214 6 nv vn G.N::Tb 218 2 ev ve G.E::L)):Sat W w (dM p G::L):=
 Sat.yH (vn,ve) (Sat.sH h)
theorem yD {p:Nat} {G:Gr} (O:Sat W w (dM p G::L)) (n:Int) {b:Bool} (hb:G.is n=b):
  Calls Tryz.prog 150 #[.pointer (some ⟨p,0,none⟩), .int .i64 n] w fun e w'=>e= .returned (.bool b)/\w=w':=by
 obtain⟨an,cn,ae,ce,hcn,hce,O⟩:=dM.open O
 unfold Gr.is at hb
 by_cases I:0<=n
 ·have e1:decide (0<=n)=true:=bL I
  by_cases H:n< (G.N.length:Int)
  ·obtain rfl:b=true:=by rw[<-hb,e1,bL H];rfl
   clear hb;go_enter Tryz.func150,Tryz.ntmps150
   go_wp2_with (refine bB O ?_)
   go_ret;exact⟨rfl,rfl⟩
  ·obtain rfl:b=false:=by rw[<-hb,e1,bf H];rfl
   have e2:decide (n< (G.N.length:Int))=false:=bf H;clear hb;go_enter Tryz.func150,Tryz.ntmps150
   go_wp2_with (refine bB O ?_)
   go_ret;exact⟨rfl,rfl⟩
 ·obtain rfl:b=false:=by rw[<-hb,bf I];rfl
  have e1:decide (0<=n)=false:=bf I;clear hb;go_enter Tryz.func150,Tryz.ntmps150
  go_wp2_with (refine bB O ?_)
  go_ret;exact⟨rfl,rfl⟩
def JQ (a b:Int) (p:Nat×Nat):Bool:=decide ((p.1:Int)=a)&&decide ((p.2:Int)=b)
theorem af7 {α:Type} {l:List α} {i:Nat} {x:α} {P:α->Bool} (V:l[i]? =some x) (h:(l.take i).any P=false) (hp:P x=true):l.any P=true:=by
 have H:=h;exact List.any_eq_true.2 ⟨x,bJ V,hp⟩
theorem Wu {α:Type} {l:List α} {i:Nat} {x:α} {P:α->Bool} (V:l[i]? =some x) (h:(l.take i).any P=false) (hp:P x=false):(l.take (i+1)).any P=false:=by
 rw[ik,V,List.any_append,h];simp[hp]
theorem YY {p:Nat} {G:Gr} (O:Sat W w (dM p G::L)) (a b:Int) (hE:G.E.length<=1000000) {r:Bool} (hr:G.has (a,b)=r):
  Calls Tryz.prog 151 #[.pointer (some ⟨p,0,none⟩), .int .i64 a, .int .i64 b] w fun e w'=>e= .returned (.bool r)/\w=w':=by
 obtain⟨an,cn,ae,ce,hcn,hce,O⟩:=dM.open O
 have HR:=Z (show G.E.any (JQ a b)=r from hr);clear hr;go_enter Tryz.func151,Tryz.ntmps151
 go_wp2_with (refine bB O ?_)
 have H0:=Z O;go_loopw [7] (fun v wz=>∃i:Nat,v= .int .i64 i/\i<=G.E.length/\(G.E.take i).any (JQ a b)=false/\w=wz) (fun v _=>G.E.length-(intOf v).toNat)
 case atStart=>exact⟨0,rfl,by omega,rfl,rfl⟩
 case round=>
  obtain⟨i,rfl,hi,hno,rfl⟩:=hrel;have dx:=Z hno;clear H0 hno
  by_cases hl:i<G.E.length
  ·have k1:(i:Int)< (G.E.length:Int):=by omega
   obtain⟨⟨x,y⟩,V⟩:∃e,G.E[i]? =some e:=⟨_,aR hl⟩
   have HX:=Z V;have HL:=Z hl;obtain⟨be,oe,c',hv,_⟩:=O.pX (k:=2) rfl (by omega);simp only[Value.slice.injEq,true_and] at hv;obtain⟨rfl,rfl⟩:=hv;clear V hl
   by_cases hxa:(x:Int)=a
   ·have VM:=Z hxa;have f1:((x:Int)==a)=true:=by rw[hxa];simp
    have BC:decide ((x:Int)=a)=true:=bL hxa
    by_cases hyb:(y:Int)=b
    ·have HYB:=Z hyb;have f2:((y:Int)==b)=true:=by rw[hyb];simp
     have EJ:decide ((y:Int)=b)=true:=bL hyb;obtain rfl:r=true:=by rw[<-HR.F];exact af7 HX.F dx.F (by unfold JQ;rw[BC,EJ];rfl)
     go_wp2_with (first
      |(refine bB O ?_)
      |(refine aU ?_;refine mh O _ _ (by rfl) _ _ (by rfl) (aI (by rfl)) hz2 i 0 (by omega) HX.F (by rfl) ?_)
      |(refine aU ?_;refine mh O _ _ (by rfl) _ _ (by rfl) (aI (by rfl)) hz2 i 1 (by omega) HX.F (by rfl) ?_))
     go_ret;exact⟨rfl,rfl⟩
    ·have f2:((y:Int)==b)=false:=dH.2 hyb;have EJ:decide ((y:Int)=b)=false:=bf hyb
     go_wp2_with (first
      |(refine bB O ?_)
      |(refine aU ?_;refine mh O _ _ (by rfl) _ _ (by rfl) (aI (by rfl)) hz2 i 0 (by omega) HX.F (by rfl) ?_)
      |(refine aU ?_;refine mh O _ _ (by rfl) _ _ (by rfl) (aI (by rfl)) hz2 i 1 (by omega) HX.F (by rfl) ?_))
     exact⟨⟨i+1,by go_num,HL.F,Wu HX.F dx.F (by unfold JQ;rw[BC,EJ];rfl),trivial⟩,by simp[intOf];have:=HL.F;omega⟩
   ·have f1:((x:Int)==a)=false:=dH.2 hxa;have BC:decide ((x:Int)=a)=false:=bf hxa
    go_wp2_with (first
     |(refine bB O ?_)
     |(refine aU ?_;refine mh O _ _ (by rfl) _ _ (by rfl) (aI (by rfl)) hz2 i 0 (by omega) HX.F (by rfl) ?_)
     |(refine aU ?_;refine mh O _ _ (by rfl) _ _ (by rfl) (aI (by rfl)) hz2 i 1 (by omega) HX.F (by rfl) ?_))
    exact⟨⟨i+1,by go_num,HL.F,Wu HX.F dx.F (by unfold JQ;rw[BC];rfl),trivial⟩,by simp[intOf];have:=HL.F;omega⟩
  ·have k1:decide ((i:Int)< (G.E.length:Int))=false:=bf (by omega);have k2:¬(i:Int)< (G.E.length:Int):=by omega
   obtain rfl:r=false:=by rw[<-HR.F,<-dx.F,dF (by omega)]
   clear hl
   go_wp2_with (refine bB O ?_)
   go_ret;exact⟨rfl,rfl⟩
def yt (G:Gr) (k o:Int) (i:Nat):Nat:=((G.N.take i).filter (Gr.same k o)).length
theorem agP {G:Gr} {k o:Int} {i:Nat} {x:dZ} (V:G.N[i]? =some x):yt G k o (i+1)=yt G k o i+if Gr.same k o x then 1 else 0:=by
 unfold yt;rw[ik,V,List.filter_append,bP];congr 1
 cases h:Gr.same k o x with
 |true=>simp[h]
 |false=>simp[h]
theorem agO (G:Gr) (k o:Int) (i:Nat):yt G k o i<=i:=by
 unfold yt;have:=List.length_filter_le (Gr.same k o) (G.N.take i);have:=List.length_take_le i G.N;omega
theorem agN (G:Gr) (k o:Int) {i:Nat} (h:G.N.length<=i):yt G k o i=G.count k o:=by unfold yt Gr.count;rw[dF h]
theorem alv {p:Nat} {G:Gr} (O:Sat W w (dM p G::L)) (hG:G.Ok) (k o:Int):
  Calls Tryz.prog 139 #[.pointer (some ⟨p,0,none⟩), .int .i64 k, .int .i64 o] w fun e w'=>e= .returned (.tuple #[.int .i64 (G.ui k o), .int .i64 (G.ry k o)])/\Sat W w' (dM p (G.pF k o)::L):=by
 by_cases I:k<1
 ·have HF:=Z (Dm (k:=k) (o:=o) (by omega));unfold Gr.ui Gr.ry Gr.pF Gr.si;rw[HF.F];go_enter Tryz.func139,Tryz.ntmps139;go_wp2
  go_ret2
  exact⟨rfl,O⟩
 have e1:decide (k<1)=false:=bf I
 by_cases H:5<k
 ·have e2:decide (5<k)=true:=bL H;have HF:=Z (Dm (k:=k) (o:=o) (by omega));unfold Gr.ui Gr.ry Gr.pF Gr.si;rw[HF.F];go_enter Tryz.func139,Tryz.ntmps139;go_wp2
  go_ret2
  exact⟨rfl,O⟩
 have e2:decide (5<k)=false:=bf H
 by_cases h3:o<1
 ·have e3:decide (o<1)=true:=bL h3;have HF:=Z (Dm (k:=k) (o:=o) (by omega));unfold Gr.ui Gr.ry Gr.pF Gr.si;rw[HF.F];go_enter Tryz.func139,Tryz.ntmps139;go_wp2
  go_ret2
  exact⟨rfl,O⟩
 have e3:decide (o<1)=false:=bf h3
 by_cases h4:16777215<o
 ·have e4:decide (16777215<o)=true:=bL h4;have HF:=Z (Dm (k:=k) (o:=o) (by omega));unfold Gr.ui Gr.ry Gr.pF Gr.si;rw[HF.F];go_enter Tryz.func139,Tryz.ntmps139;go_wp2
  go_ret2
  exact⟨rfl,O⟩
 have e4:decide (16777215<o)=false:=bf h4;have hnew:=aaD (k:=k) (o:=o) (by omega) (by omega) (by omega) (by omega);obtain⟨an,cn,ae,ce,hcn,hce,hO⟩:=dM.open O
 by_cases h5:4096<=G.N.length
 ·have e5:4096<=(G.N.length:Int):=by omega
  unfold Gr.ui Gr.ry Gr.pF Gr.si;rw[hnew,bf (by omega),if_neg (by decide),if_pos rfl,if_neg (by omega),if_neg (by decide)];clear hnew h5;go_enter Tryz.func139,Tryz.ntmps139
  go_wp2_with (refine bB hO ?_)
  go_ret2
  exact⟨rfl,O⟩
 have e5:¬4096<=(G.N.length:Int):=by omega
 have e5b:decide (4096<=(G.N.length:Int))=false:=bf e5;have e5c:(G.N.length:Int)<4096:=by omega
 have hadd:G.si k o=true:=by unfold Gr.si;rw[hnew,bL (by omega)];rfl
 unfold Gr.ui Gr.ry Gr.pF;rw[hadd,if_pos rfl,if_pos rfl,hnew,if_pos rfl,if_pos (by omega)];clear hnew hadd O;have O:=hO;clear hO;have aM:=Z (show G.N.length<4096 by omega);clear h5;go_enter Tryz.func139,Tryz.ntmps139
 go_wp2_with (refine bB O ?_)
 have H0:=Z O;go_loopw [8,9] (fun v8 v9 wz=>∃i:Nat,v9= .int .i64 i/\i<=G.N.length/\v8= .int .i64 (1+(yt G k o i:Int))/\w=wz) (fun _ v9 _=>G.N.length-(intOf v9).toNat)
 case atStart=>exact⟨0,rfl,by omega,rfl,rfl⟩
 case round=>
  obtain⟨i,rfl,hi,rfl,rfl⟩:=hrel;clear H0;obtain⟨q,hq⟩:=au (yt G k o i);have hqi:(q:Int)<=4096:=by have:=agO G k o i;have:=aM.F;omega
  rw[hq]
  by_cases hl:i<G.N.length
  ·have k1:(i:Int)< (G.N.length:Int):=by omega
   obtain⟨⟨x1,x2,x3,x4,x5,x6⟩,V⟩:∃e,G.N[i]? =some e:=⟨_,aR hl⟩
   have HX:=Z V;have HL:=Z hl;have dJ:=Z (agP (k:=k) (o:=o) V);have HQ:=Z hq;obtain⟨bn,on,c',hv,_⟩:=O.pX (k:=1) rfl (by omega);simp only[Value.slice.injEq,true_and] at hv;obtain⟨rfl,rfl⟩:=hv;clear V hl hq
   by_cases hxa:x1=k
   ·have f1:(x1==k)=true:=by rw[hxa];simp
    have BC:decide (x1=k)=true:=bL hxa
    by_cases hyb:x2=o
    ·have f2:(x2==o)=true:=by rw[hyb];simp
     have EJ:decide (x2=o)=true:=bL hyb;have qg:=Z (show Gr.same k o ⟨x1,x2,x3,x4,x5,x6⟩=true by unfold Gr.same;rw[BC,EJ];rfl);have qY:=Z (show(1:Int)+(q:Int)+1=1+(yt G k o (i+1):Int) by rw[dJ.F,qg.F,HQ.F];simp;omega)
     go_wp2_with (first
      |(refine bB O ?_)
      |(refine aU ?_;refine mh O _ _ (by rfl) _ _ (by rfl) (aI (by rfl)) hz1 i 0 (by omega) HX.F (by rfl) ?_)
      |(refine aU ?_;refine mh O _ _ (by rfl) _ _ (by rfl) (aI (by rfl)) hz1 i 1 (by omega) HX.F (by rfl) ?_))
     exact⟨⟨i+1,by go_num,HL.F,by rw[qY.F],trivial⟩,by simp[intOf];have:=HL.F;omega⟩
    ·have f2:(x2==o)=false:=dH.2 hyb;have EJ:decide (x2=o)=false:=bf hyb;have qg:=Z (show Gr.same k o ⟨x1,x2,x3,x4,x5,x6⟩=false by unfold Gr.same;rw[BC,EJ];rfl);have qY:=Z (show(1:Int)+(q:Int)=1+(yt G k o (i+1):Int) by rw[dJ.F,qg.F,HQ.F];simp)
     go_wp2_with (first
      |(refine bB O ?_)
      |(refine aU ?_;refine mh O _ _ (by rfl) _ _ (by rfl) (aI (by rfl)) hz1 i 0 (by omega) HX.F (by rfl) ?_)
      |(refine aU ?_;refine mh O _ _ (by rfl) _ _ (by rfl) (aI (by rfl)) hz1 i 1 (by omega) HX.F (by rfl) ?_))
     exact⟨⟨i+1,by go_num,HL.F,by rw[qY.F],trivial⟩,by simp[intOf];have:=HL.F;omega⟩
   ·have f1:(x1==k)=false:=dH.2 hxa;have BC:decide (x1=k)=false:=bf hxa;have qg:=Z (show Gr.same k o ⟨x1,x2,x3,x4,x5,x6⟩=false by unfold Gr.same;rw[BC];rfl);have qY:=Z (show(1:Int)+(q:Int)=1+(yt G k o (i+1):Int) by rw[dJ.F,qg.F,HQ.F];simp)
    go_wp2_with (first
     |(refine bB O ?_)
     |(refine aU ?_;refine mh O _ _ (by rfl) _ _ (by rfl) (aI (by rfl)) hz1 i 0 (by omega) HX.F (by rfl) ?_)
     |(refine aU ?_;refine mh O _ _ (by rfl) _ _ (by rfl) (aI (by rfl)) hz1 i 1 (by omega) HX.F (by rfl) ?_))
    exact⟨⟨i+1,by go_num,HL.F,by rw[qY.F],trivial⟩,by simp[intOf];have:=HL.F;omega⟩
  ·have k1:decide ((i:Int)< (G.N.length:Int))=false:=bf (by omega);have k2:¬(i:Int)< (G.N.length:Int):=by omega
   have HQ:=Z (show q=G.count k o by rw[<-hq,agN _ _ _ (by omega)]);have qf:=Z (show G.xD k o=⟨k,o,q+1,0,0,false⟩ by unfold Gr.xD;rw[HQ.F]);have HQ1:=Z (show(1:Int)+(q:Int)=((q+1:Nat):Int) by omega);clear hl hq;rw[HQ1.F]
   go_wp2_with (first
    |(refine bB O ?_)
    |(refine il [.agg (nv ⟨k,o,q+1,0,0,false⟩).toArray] O ?_ (hc:=by intro v hv;rw[eD.1 hv];rfl);clear O;intro b1 J O;rw[kP] at O)
    |(refine og (f:=nv) O hz2 [⟨k,o,q+1,0,0,false⟩] ?_ (hlen:=by exact akh _) (hsrc:=by exact O.gZ (f:=nv) aa rfl) (I:=by exact Ff _) (hb:=by simp;have:=aM.F;omega) (hm:=by simp;have:=aM.F;omega);clear O;intro uj c5 J hcap5 O;dsimp only[aD,aN] at O)
    |(refine qR O ?_;clear O;intro J O;dsimp only[List.set] at O))
   go_ret2
   have H:=O.drop;simp only[bP,dC] at H;have h3:G.plus k o=⟨G.N++[⟨k,o,q+1,0,0,false⟩],G.E⟩:=by unfold Gr.plus;rw[qf.F]
   rw[h3];exact⟨by simp,dM.mk (G:=⟨_,_⟩) H⟩
def bl (S:Nat->Bool) (n:Nat):List Value:=(List.range n).map fun k=> .bool (S k)
theorem Ju (S:Nat->Bool) (n:Nat):(bl S n).length=n:=by simp[bl]
theorem Ez {S:Nat->Bool} {n k:Nat} (h:k<n):(bl S n)[k]? =some (.bool (S k)):=by simp[bl,h]
theorem agc (n:Nat):List.replicate n (Value.bool false)=bl (fun _=>false) n:=by
 unfold bl;rw[List.map_const',List.length_range]
theorem WO {S:Nat->Bool} {n k:Nat} (h:k<n):(bl S n).set k (.bool true)=bl (fun t=>S t || decide (t=k)) n:=by
 apply List.ext_getElem?;intro i;rw[yX,Ju]
 by_cases hi:k=i
 ·subst hi;rw[if_pos rfl,if_pos h,Ez h];simp
 ·rw[if_neg hi]
  by_cases H:i<n
  ·rw[Ez H,Ez H,bf (fun e=>hi e.symm),Bool.or_false]
  ·rw[qE (by rw[Ju];omega),qE (by rw[Ju];omega)]
theorem aac (n:Nat):(madeCells (Value.bool false).cells (n*1)).toList=bl (fun _=>false) n:=by
 rw[<-agc];simp[madeCells,Value.cells,Nat.mod_one,List.map_const']
def JI (S:Nat->Bool) (n:Nat):Nat:=(List.range n).countP fun k=> !S k
theorem Xp {α:Type} {p q:α->Bool} :∀ {l:List α},(∀x∈l,p x=true->q x=true)->(∃x∈l,p x=false/\q x=true)->l.countP p<l.countP q
 |[],_,h=>by obtain⟨x,V,_⟩:=h;cases V
 |y::l,hi,h=>by
  obtain⟨x,V,I,H⟩:=h;have hle:l.countP p<=l.countP q:=List.countP_mono_left fun z hz=>hi z (List.mem_cons_of_mem _ hz)
  rw[List.countP_cons,List.countP_cons]
  rcases oK.1 V with rfl|V
  ·rw[I,H];simp;omega
  ·have h3:=Xp (fun z hz=>hi z (List.mem_cons_of_mem _ hz)) ⟨x,V,I,H⟩;have h4:=hi y (List.mem_cons_self ..)
   cases hp:p y with
   |true=>rw[h4 hp];simp;omega
   |false=>cases q y<;>simp<;>omega
theorem ahI {S:Nat->Bool} {n k:Nat} (h:k<n) (hk:S k=false):JI (fun t=>S t || decide (t=k)) n<JI S n:=by
 refine Xp (fun x _ V=>?_) ⟨k,jD.2 h,by simp,by simp[hk]⟩;simp only[Bool.not_or,ed] at V;exact V.1
def ZL:Option Value->Bool
 |some (.bool false)=>true
 |_=>false
def Yh (w:World) (b n:Nat):Nat:=(List.range n).countP fun k=>ZL (w.cell? ⟨b,k,none⟩)
def Q6:Value->Nat
 | .bool true=>1
 |_=>0
theorem Yi {b E n k:Nat} {S:Nat->Bool} (h:Sat W w L) (hk:Has L k (Cs b E (bl S n))):Yh w b n=JI S n:=by
 refine List.countP_congr fun j hj=>?_
 rw[h.cell hk (Ez (jD.1 hj))]
 cases S j<;>simp[ZL]
structure CP (G:Gr) (n:Nat) (S:Nat->Bool):Prop where
 src:S n=true
 reach:∀k,S k=true->G.Reach n k
structure yc (G:Gr) (n:Nat) (S:Nat->Bool) (i:Nat) (S':Nat->Bool) (m:Bool):Prop where
 inv:CP G n S'
 no:m=false->S'=S/\∀j,j<i->∀e,G.E[j]? =some e->S' e.1=true->S' e.2=true
 yes:m=true->JI S' G.N.length<JI S G.N.length
theorem yc.start {G:Gr} {n:Nat} {S:Nat->Bool} (h:CP G n S):yc G n S 0 S false:=⟨h,fun _=>⟨rfl,fun j hj=>by omega⟩,fun h=>by cases h⟩
theorem yc.skip {G:Gr} {n i x y:Nat} {S S':Nat->Bool} {m:Bool} (h:yc G n S i S' m) (he:G.E[i]? =some (x,y)) (hxy:S' x=true->S' y=true):yc G n S (i+1) S' m where
 inv:=h.inv
 no:=fun hm=>⟨(h.no hm).1,fun j hj e Sg=>by
  by_cases hji:j=i
  ·subst hji;rw[he] at Sg;cases Sg;exact hxy
  ·exact(h.no hm).2 j (by omega) e Sg⟩
 yes:=h.yes
theorem yc.put {G:Gr} {n i x y:Nat} {S S':Nat->Bool} {m:Bool} (h:yc G n S i S' m) (he:G.E[i]? =some (x,y)) (V:S' x=true) (hy:S' y=false) (hlt:y<G.N.length):yc G n S (i+1) (fun t=>S' t || decide (t=y)) true where
 inv:=⟨by simp[h.inv.src],fun k hk=>by
  simp only[Bool.or_eq_true,decide_eq_true_eq] at hk
  rcases hk with hk|rfl
  ·exact h.inv.reach k hk
  ·exact(h.inv.reach x V).snoc (bJ he)⟩
 no:=fun h=>by cases h
 yes:=fun _=>by
  have I:=ahI (n:=G.N.length) hlt hy
  cases m with
  |true=>have:=h.yes rfl;omega
  |false=>rw[(h.no rfl).1] at I ⊢;exact I
theorem yc.fin {G:Gr} {n i:Nat} {S S':Nat->Bool} (h:yc G n S i S' false) (hi:G.E.length<=i):∀e∈G.E,S' e.1=true->S' e.2=true:=fun e he=>by
 obtain⟨j,hj⟩:=List.mem_iff_getElem?.1 he;exact(h.no rfl).2 j (by have:=(bZ.1 hj).1;omega) e hj
open Classical in
noncomputable def Gr.rB (G:Gr) (n:Int) (k:Nat):Bool:=G.is n&&decide (G.Reach n.toNat k)
theorem Gr.alo {G:Gr} {n:Int} (h:G.is n=false):G.rB n=fun _=>false:=by funext k;unfold Gr.rB;rw[h];rfl
theorem Gr.TH {G:Gr} {n k:Nat} (h:n<G.N.length):G.rB (n:Int) k=true↔G.Reach n k:=by
 unfold Gr.rB;rw[Gr.NB h];simp
theorem CP.done {G:Gr} {n:Nat} {S:Nat->Bool} (h:CP G n S) (hn:n<G.N.length) (hc:∀e∈G.E,S e.1=true->S e.2=true):S=G.rB (n:Int):=by
 funext k;rw[Bool.eq_iff_iff,Gr.TH hn];exact⟨h.reach k,fun hr=>hr (fun z=>S z=true) h.src fun a b I H=>hc (a,b) H I⟩
theorem CP.start (G:Gr) (n:Nat):CP G n (fun t=>(fun _=>false) t || decide (t=n)):=⟨by simp,fun k hk=>by
 have:k=n:=by simpa using hk
 subst this;exact Gr.Reach.refl G k⟩
theorem aj6 {p:Nat} {G:Gr} (O:Sat W w (dM p G::L)) (hG:G.Ok) (n:Int):
  Calls Tryz.prog 161 #[.pointer (some ⟨p,0,none⟩), .int .i64 n] w fun e w'=>∃b,e= .returned (.slice (some ⟨b,0,none⟩) G.N.length G.N.length)/\Sat W w' (Cs b 4 (bl (G.rB n) G.N.length)::dM p G::L):=by
 have aM:=Z hG.len
 cases hb:G.is n
 ·rw[Gr.alo hb];have HB:=Z hb;clear hb;have HIS:Hid (∀w L,Sat W w (dM p G::L)->Calls Tryz.prog 150 #[.pointer (some ⟨p,0,none⟩), .int .i64 n] w fun e w'=>e= .returned (.bool false)/\w=w'):=Z fun w L h=>yD h n HB.F
  obtain⟨an,cn,ae,ce,hcn,hce,O⟩:=dM.open O
  go_enter Tryz.func161,Tryz.ntmps161
  go_wp2_with (first
   |(refine bB O ?_)
   |(refine aU ?_;refine mk O _ _ _ (by rfl) G.N.length G.N.length _ _ (by rfl) (by rfl) (bS (by rfl)) (by omega) (by have:=aM.F;omega) (by have:=aM.F;omega) ?_;clear O;intro b J O;rw[aac] at O)
   |(go_at_call 150;refine ak (HIS.F _ _ (dM.mk O.drop)) ?_;rintro J rfl))
  go_ret;exact⟨_,rfl,(dM.mk (O.re [1,2,3])).bW⟩
 ·have HB:=Z hb;obtain⟨k,rfl,hk⟩:=Gr.xB hb;have HIS:Hid (∀w L,Sat W w (dM p G::L)->Calls Tryz.prog 150 #[.pointer (some ⟨p,0,none⟩), .int .i64 (k:Int)] w fun e w'=>e= .returned (.bool true)/\w=w'):=Z fun w L h=>yD h k HB.F
  have j1:(k:Int)< (G.N.length:Int):=by omega
  have HK:=Z hk;have aeg:=Z hG.low;have hel:(G.E.length:Int)<=1000000:=by have:=hG.BB;omega
  clear hb hk;obtain⟨an,cn,ae,ce,hcn,hce,O⟩:=dM.open O
  go_enter Tryz.func161,Tryz.ntmps161
  go_wp2_with (first
   |(refine aU ?_;refine mk O _ _ _ (by rfl) G.N.length G.N.length _ _ (by rfl) (by rfl) (bS (by rfl)) (by omega) (by have:=aM.F;omega) (by have:=aM.F;omega) ?_;clear O;intro b J O;rw[aac] at O)
   |(go_at_call 150;refine ak (HIS.F _ _ (dM.mk O.drop)) ?_;rintro J rfl)
   |(refine iA O aa ?_ (hb:=by rw[Ju];omega);clear O;intro J O;simp only[aD] at O;rw[WO HK.F] at O)
   |(refine bB O ?_))
  have H0:=Z O
  go_loopw [6] (fun v wz=>∃(S:Nat->Bool) (m:Bool),v= .bool m/\CP G k S/\(m=false->∀e∈G.E,S e.1=true->S e.2=true)/\
   Sat W wz (Cs b 4 (bl S G.N.length)::Cs p 190 [.slice an G.N.length cn, .slice ae G.E.length ce]::Tb 214 6 nv (.slice an G.N.length cn) G.N::Tb 218 2 ev (.slice ae G.E.length ce) G.E::L))
   (fun v wz=>2*Yh wz b G.N.length+Q6 v)
  case atStart=>exact⟨_,true,rfl,CP.start G k,fun h=>(by cases h),H0.F⟩
  case round=>
   clear O H0;obtain⟨S,m,rfl,hI,hm,O⟩:=hrel;have HI:=Z hI;have HM:=Z hm;have HF:=Z (Yi O (k:=0) rfl);clear hI hm
   cases m
   ·go_wp2;go_ret;have H:=(HI.F).done HK.F (HM.F (by simp));rw[H] at O;exact⟨_,rfl,(dM.mk (O.re [1,2,3])).bW⟩
   ·clear HM;go_wp2;have H1:=Z O
    go_loopw [6,7] (fun v6 v7 wy=>∃(i:Nat) (S':Nat->Bool) (m:Bool),v7= .int .i64 i/\v6= .bool m/\i<=G.E.length/\yc G k S i S' m/\
     Sat W wy (Cs b 4 (bl S' G.N.length)::Cs p 190 [.slice an G.N.length cn, .slice ae G.E.length ce]::Tb 214 6 nv (.slice an G.N.length cn) G.N::Tb 218 2 ev (.slice ae G.E.length ce) G.E::L))
     (fun _ v7 _=>G.E.length-(intOf v7).toNat)
    case atStart=>exact⟨0,S,false,rfl,rfl,by omega,yc.start HI.F,H1.F⟩
    case round=>
     clear O H1;obtain⟨i,S',m,rfl,rfl,hi,hJ,O⟩:=hrel;have HJ:=Z hJ;clear hJ
     by_cases hl:i<G.E.length
     ·have k1:(i:Int)< (G.E.length:Int):=by omega
      obtain⟨⟨x,y⟩,V⟩:∃e,G.E[i]? =some e:=⟨_,aR hl⟩
      have HX:=Z V;have HL:=Z hl;obtain⟨hxl,hyl⟩:=aeg.F (x,y) (bJ V);dsimp only at hxl hyl;have x1:(x:Int)< (G.N.length:Int):=by omega
      have y1:(y:Int)< (G.N.length:Int):=by omega
      have Em:=Z hyl;obtain⟨be,oe,c',hv,_⟩:=O.pX (k:=3) rfl (by omega);simp only[Value.slice.injEq,true_and] at hv;obtain⟨rfl,rfl⟩:=hv;have hbx:=Ez (S:=S') hxl;have hby:=Ez (S:=S') hyl;clear V hl hxl hyl
      cases hsx:S' x
      ·rw[hsx] at hbx;have Cr:=Z hbx;have uT:=Z hsx;clear hbx hby hsx
       go_wp2_with (first
        |(refine aU ?_;refine mh O _ _ (by rfl) _ _ (by rfl) (aI (by rfl)) hz3 i 0 (by omega) HX.F (by rfl) ?_)
        |(refine aU ?_;refine mh O _ _ (by rfl) _ _ (by rfl) (aI (by rfl)) hz3 i 1 (by omega) HX.F (by rfl) ?_)
        |(refine aH O aa Cr.F ?_)
        |(refine bB O ?_))
       exact⟨⟨i+1,S',m,by go_num,rfl,HL.F,HJ.F.skip HX.F (fun h=>by rw[uT.F] at h;cases h),O⟩,by simp[intOf];have:=HL.F;omega⟩
      ·rw[hsx] at hbx;have Cr:=Z hbx;have uT:=Z hsx
       cases hsy:S' y
       ·rw[hsy] at hby;have vK:=Z hby;have uU:=Z hsy;clear hbx hby hsx hsy
        go_wp2_with (first
         |(refine aU ?_;refine mh O _ _ (by rfl) _ _ (by rfl) (aI (by rfl)) hz3 i 0 (by omega) HX.F (by rfl) ?_)
         |(refine aU ?_;refine mh O _ _ (by rfl) _ _ (by rfl) (aI (by rfl)) hz3 i 1 (by omega) HX.F (by rfl) ?_)
         |(refine aH O aa Cr.F ?_)
         |(refine aH O aa vK.F ?_)
         |(refine iA O aa ?_ (hb:=by rw[Ju];exact Em.F);clear O;intro J O;simp only[aD] at O;rw[WO Em.F] at O)
         |(refine bB O ?_))
        exact⟨⟨i+1,_,true,by go_num,rfl,HL.F,HJ.F.put HX.F uT.F uU.F Em.F,O⟩,by simp[intOf];have:=HL.F;omega⟩
       ·rw[hsy] at hby;have vK:=Z hby;have uU:=Z hsy;clear hbx hby hsx hsy
        go_wp2_with (first
         |(refine aU ?_;refine mh O _ _ (by rfl) _ _ (by rfl) (aI (by rfl)) hz3 i 0 (by omega) HX.F (by rfl) ?_)
         |(refine aU ?_;refine mh O _ _ (by rfl) _ _ (by rfl) (aI (by rfl)) hz3 i 1 (by omega) HX.F (by rfl) ?_)
         |(refine aH O aa Cr.F ?_)
         |(refine aH O aa vK.F ?_)
         |(refine bB O ?_))
        exact⟨⟨i+1,S',m,by go_num,rfl,HL.F,HJ.F.skip HX.F (fun _=>uU.F),O⟩,by simp[intOf];have:=HL.F;omega⟩
     ·have k1:decide ((i:Int)< (G.E.length:Int))=false:=bf (by omega);have k2:¬(i:Int)< (G.E.length:Int):=by omega
      have dI:=Z (show G.E.length<=i by omega);clear hl
      go_wp2_with (refine bB O ?_)
      have hf2:=Yi O (k:=0) rfl;refine⟨⟨S',m,rfl,HJ.F.inv,fun h=>?_,O⟩,?_⟩
      ·subst h;exact HJ.F.fin dI.F
      ·rw[HF.F,hf2]
       cases m
       ·rw[(HJ.F.no rfl).1];simp[Q6]
       ·have:=HJ.F.yes rfl;simp[Q6];omega
theorem Gr.alJ (G:Gr) (a b:Int):G.reaches a b=(G.is a&&(G.is b&&G.rB a b.toNat)):=by
 unfold Gr.reaches Gr.ym
 cases ha:G.is a with
 |false=>rfl
 |true=>
  obtain⟨x,rfl,V⟩:=Gr.xB ha;rw[if_pos rfl,fu,Bool.true_and,Bool.eq_iff_iff,List.any_eq_true,ed]
  constructor
  ·rintro⟨y,hy,he⟩;have he:=of_decide_eq_true he;obtain⟨I,H⟩:=Gr.NQ.1 hy;subst he;exact⟨Gr.NB I,by rw[fu];exact(Gr.TH V).2 H⟩
  ·rintro⟨I,H⟩;obtain⟨y,rfl,hy⟩:=Gr.xB I;rw[fu] at H;exact⟨y,Gr.NQ.2 ⟨hy,(Gr.TH V).1 H⟩,by simp⟩
theorem abU {p:Nat} {G:Gr} (O:Sat W w (dM p G::L)) (hG:G.Ok) (a b:Int) {r:Bool} (hr:G.reaches a b=r):
  Calls Tryz.prog 152 #[.pointer (some ⟨p,0,none⟩), .int .i64 a, .int .i64 b] w fun e w'=>e= .returned (.bool r)/\Sat W w' (dM p G::L):=by
 rw[Gr.alJ] at hr
 cases ha:G.is a
 ·have HA:=Z (fun w L (h:Sat W w (dM p G::L))=>yD h a ha);obtain rfl:r=false:=by rw[<-hr,ha];rfl
  clear ha hr;go_enter Tryz.func152,Tryz.ntmps152
  go_wp2_with (go_at_call 150;refine ak (HA.F _ _ O) ?_;rintro J rfl)
  go_ret;exact⟨rfl,O⟩
 have HA:=Z (fun w L (h:Sat W w (dM p G::L))=>yD h a ha)
 cases hb:G.is b
 ·have HB:=Z (fun w L (h:Sat W w (dM p G::L))=>yD h b hb);obtain rfl:r=false:=by rw[<-hr,ha,hb];rfl
  clear ha hb hr;go_enter Tryz.func152,Tryz.ntmps152
  go_wp2_with (go_at_call 150;(first|with_reducible refine(HA.F _ _ O).mono ?_|with_reducible refine(HB.F _ _ O).mono ?_);rintro e J ⟨rfl,rfl⟩)
  go_ret;exact⟨rfl,O⟩
 have HB:=Z (fun w L (h:Sat W w (dM p G::L))=>yD h b hb);obtain⟨y,rfl,hy⟩:=Gr.xB hb;have hr2:G.rB a y=r:=by rw[<-hr,ha,hb];rfl
 have HV:=Z (show(bl (G.rB a) G.N.length)[y]? =some (.bool r) by rw[Ez hy,hr2]);have j1:(y:Int)< (G.N.length:Int):=by omega
 clear ha hb hr hr2 hy;go_enter Tryz.func152,Tryz.ntmps152
 go_wp2_with (first
  |(go_at_call 150;(first|with_reducible refine(HA.F _ _ O).mono ?_|with_reducible refine(HB.F _ _ O).mono ?_);rintro e J ⟨rfl,rfl⟩)
  |(go_at_call 161;refine(aj6 O hG a).mono ?_;clear O;rintro e J ⟨bm,rfl,O⟩)
  |(refine aH O aa HV.F ?_))
 go_ret;exact⟨rfl,O.drop⟩
theorem alR {p:Nat} {G:Gr} (O:Sat W w (dM p G::L)) (hG:G.Ok) (hel:G.E.length<1000000) (a b:Int):
  Calls Tryz.prog 140 #[.pointer (some ⟨p,0,none⟩), .int .i64 a, .int .i64 b] w fun e w'=>e= .returned (.int .i64 (G.j5 a b))/\Sat W w' (dM p (G.oZ a b)::L):=by
 cases ha:G.is a
 ·have HE:=Z (show G.j5 a b=1 by unfold Gr.j5;rw[if_pos (by simp[ha])]);have HA:=Z (fun w L (h:Sat W w (dM p G::L))=>yD h a ha);unfold Gr.oZ;rw[HE.F,if_neg (by decide)];clear ha;go_enter Tryz.func140,Tryz.ntmps140
  go_wp2_with (go_at_call 150;refine ak (HA.F _ _ O) ?_;rintro J rfl)
  go_ret;exact⟨rfl,O⟩
 have HA:=Z (fun w L (h:Sat W w (dM p G::L))=>yD h a ha)
 cases hb:G.is b
 ·have HE:=Z (show G.j5 a b=1 by unfold Gr.j5;rw[if_pos (by simp[hb])]);have HB:=Z (fun w L (h:Sat W w (dM p G::L))=>yD h b hb);unfold Gr.oZ;rw[HE.F,if_neg (by decide)];clear ha hb;go_enter Tryz.func140,Tryz.ntmps140
  go_wp2_with (go_at_call 150;(first|with_reducible refine(HA.F _ _ O).mono ?_|with_reducible refine(HB.F _ _ O).mono ?_);rintro e J ⟨rfl,rfl⟩)
  go_ret;exact⟨rfl,O⟩
 have HB:=Z (fun w L (h:Sat W w (dM p G::L))=>yD h b hb)
 by_cases hab:a=b
 ·subst hab;have HE:=Z (show G.j5 a a=1 by unfold Gr.j5;rw[if_pos (by simp)]);unfold Gr.oZ;rw[HE.F,if_neg (by decide)];clear ha hb HB;go_enter Tryz.func140,Tryz.ntmps140
  go_wp2_with (go_at_call 150;refine ak (HA.F _ _ O) ?_;rintro J rfl)
  go_ret;exact⟨rfl,O⟩
 have f1:(a==b)=false:=dH.2 hab;have f2:decide (a=b)=false:=bf hab;have HT:=show(!G.is a || !G.is b || decide (a=b))=false by rw[ha,hb,f2];rfl
 cases hh:G.has (a,b) with
 |true=>
  have HE:=Z (show G.j5 a b=23 by unfold Gr.j5;rw[HT,hh];rfl);have HH:=Z (fun w L (h:Sat W w (dM p G::L))=>YY h a b hG.BB hh);unfold Gr.oZ;rw[HE.F,if_neg (by decide)];clear ha hb HT hh;go_enter Tryz.func140,Tryz.ntmps140
  go_wp2_with (first
   |(go_at_call 150;(first|with_reducible refine(HA.F _ _ O).mono ?_|with_reducible refine(HB.F _ _ O).mono ?_);rintro e J ⟨rfl,rfl⟩)
   |(go_at_call 151;refine ak (HH.F _ _ O) ?_;rintro J rfl))
  go_ret;exact⟨rfl,O⟩
 |false=>
  have HH:=Z (fun w L (h:Sat W w (dM p G::L))=>YY h a b hG.BB hh)
  cases hr:G.reaches b a with
  |true=>
   have HE:=Z (show G.j5 a b=11 by unfold Gr.j5;rw[HT,hh,hr];rfl);have oQ:=Z (fun w L (h:Sat W w (dM p G::L))=>abU h hG b a hr);unfold Gr.oZ;rw[HE.F,if_neg (by decide)];clear ha hb HT hh hr;go_enter Tryz.func140,Tryz.ntmps140
   go_wp2_with (first
    |(go_at_call 150;(first|with_reducible refine(HA.F _ _ O).mono ?_|with_reducible refine(HB.F _ _ O).mono ?_);rintro e J ⟨rfl,rfl⟩)
    |(go_at_call 151;refine ak (HH.F _ _ O) ?_;rintro J rfl)
    |(go_at_call 152;refine ak (oQ.F _ _ O) ?_;clear O;intro J O))
   go_ret;exact⟨rfl,O⟩
  |false=>
   have hE:G.j5 a b=0:=by unfold Gr.j5;rw[HT,hh,hr];rfl
   have oQ:=Z (fun w L (h:Sat W w (dM p G::L))=>abU h hG b a hr);obtain⟨x,y,rfl,rfl,V,hy,_,_,_⟩:=Gr.Rt hE;have HE:=Z hE;unfold Gr.oZ;rw[HE.F,if_pos rfl,fu,fu];have iT:=Z hel;clear ha hb HT hh hr hE V hy hab hel;go_enter Tryz.func140,Tryz.ntmps140;obtain⟨q,hq⟩:∃q,q=dM p G:=⟨_,rfl⟩
   go_wp2_with (first
    |(go_at_call 150;(first|with_reducible refine(HA.F _ _ O).mono ?_|with_reducible refine(HB.F _ _ O).mono ?_);rintro e J ⟨rfl,rfl⟩)
    |(go_at_call 151;refine ak (HH.F _ _ O) ?_;rintro J rfl)
    |(go_at_call 152;refine ak (oQ.F _ _ O) ?_;clear O;intro J O;obtain⟨an,cn,ae,ce,hcn,hce,hO⟩:=dM.open O;clear O)
    |(refine bB hO ?_)
    |(refine il [.agg (ev (x,y)).toArray] hO ?_ (hc:=by intro v hv;rw[eD.1 hv];rfl);intro b1 J hS1;clear hO;have hO:=hS1;clear hS1;rw[kP] at hO)
    |(refine og (f:=ev) hO hz3 [(x,y)] ?_ (hlen:=by exact ahB _) (hsrc:=by exact hO.gZ (f:=ev) aa rfl) (I:=by exact ahC _) (hb:=by simp;have:=iT.F;omega) (hm:=by simp;have:=iT.F;omega);intro uj c5 J hcap5 hS1;clear hO;have hO:=hS1;clear hS1;dsimp only[aD,aN] at hO)
    |(refine iA hO hz1 ?_;intro J hS1;clear hO;have hO:=hS1;clear hS1;dsimp only[List.set] at hO))
   go_ret;have H:=hO.drop;simp only[bP,dC] at H;exact⟨rfl,dM.mk (G:=G.link x y) H⟩
theorem Oo {p:Nat} {G:Gr} (O:Sat W w (dM p G::L)) (n s:Int) {b:Bool} (hb:sU G n s=b):
  Calls Tryz.prog 153 #[.pointer (some ⟨p,0,none⟩), .int .i64 n, .int .i64 s] w fun e w'=>e= .returned (.bool b)/\w=w':=by
 unfold sU at hb
 cases hn:G.is n
 ·have HA:=Z (yD O n hn);obtain rfl:b=false:=by rw[<-hb,hn];rfl
  clear hn hb;go_enter Tryz.func153,Tryz.ntmps153
  go_wp2_with (go_at_call 150;refine HA.F.mono ?_;rintro e J ⟨rfl,rfl⟩)
  go_ret;exact⟨rfl,rfl⟩
 have HA:=Z (yD O n hn)
 by_cases I:0<=s
 ·have e1:decide (0<=s)=true:=bL I
  by_cases H:s<8
  ·have e2:decide (s<8)=true:=bL H;obtain rfl:b=true:=by rw[<-hb,hn,e1,e2];rfl
   clear hn hb;go_enter Tryz.func153,Tryz.ntmps153
   go_wp2_with (go_at_call 150;refine HA.F.mono ?_;rintro e J ⟨rfl,rfl⟩)
   go_ret;exact⟨rfl,rfl⟩
  ·have e2:decide (s<8)=false:=bf H;obtain rfl:b=false:=by rw[<-hb,hn,e1,e2];rfl
   clear hn hb;go_enter Tryz.func153,Tryz.ntmps153
   go_wp2_with (go_at_call 150;refine HA.F.mono ?_;rintro e J ⟨rfl,rfl⟩)
   go_ret;exact⟨rfl,rfl⟩
 ·have e1:decide (0<=s)=false:=bf I;obtain rfl:b=false:=by rw[<-hb,hn,e1];rfl
  clear hn hb;go_enter Tryz.func153,Tryz.ntmps153
  go_wp2_with (go_at_call 150;refine HA.F.mono ?_;rintro e J ⟨rfl,rfl⟩)
  go_ret;exact⟨rfl,rfl⟩
theorem dM.with {p:Nat} {G:Gr} {N:List dZ} {vn ve:Value}
  (h:Sat W w (Cs p 190 [vn,ve]::Tb 214 6 nv vn N::Tb 218 2 ev ve G.E::L)):Sat W w (dM p (G.rJ N)::L):=dM.mk (G:=G.rJ N) h
theorem amu {p:Nat} {G:Gr} (O:Sat W w (dM p G::L)) (n s:Int) (hm:∀x∈G.N,x.mark<256/\x.clear<256):
  Calls Tryz.prog 141 #[.pointer (some ⟨p,0,none⟩), .int .i64 n, .int .i64 s] w fun e w'=>e= .returned (.int .i64 (mZ G n s))/\Sat W w' (dM p (G.uD n s)::L):=by
 cases hb:sU G n s
 ·have HB:=Z (Oo O n s hb);unfold mZ Gr.uD;rw[hb];clear hb;go_enter Tryz.func141,Tryz.ntmps141
  go_wp2_with (go_at_call 153;refine HB.F.mono ?_;rintro e J ⟨rfl,rfl⟩)
  go_ret;exact⟨rfl,O⟩
 have HB:=Z (fun w L (h:Sat W w (dM p G::L))=>Oo h n s hb)
 obtain⟨t,rfl,ht⟩:∃t:Nat,s=t/\t<8:=by
  unfold sU at hb;simp only[ed,decide_eq_true_eq] at hb;exact⟨s.toNat,by omega,by omega⟩
 obtain⟨k,rfl,hk⟩:=Gr.xB (ME hb).1;have bq:=Z hb;obtain⟨⟨x1,x2,x3,x4,x5,x6⟩,V⟩:∃x,G.N[k]? =some x:=⟨_,aR hk⟩
 have HX:=Z V;have hm:=hm _ (bJ V);dsimp only at hm;have hsh:min (IntKind.u64.wrap (t:Int)).toNat 64=t:=by rw[IntWalk.u64_in _ (by omega)];omega
 have DW:=Z (show bits .or .i64 (x4:Int) (IntKind.i64.wrap (2 ^ min (IntKind.u64.wrap (t:Int)).toNat 64))=((x4 |||2 ^ t:Nat):Int) by rw[hsh];exact or_bit x4 t (by omega) (by omega));clear hsh;have D7:=Z (Gr.Ie V);have j1:(k:Int)< (G.N.length:Int):=by omega
 have j2:(t:Int)<8:=by omega
 have j3:t<8:=ht;clear hb hm;obtain⟨an,cn,ae,ce,hcn,hce,hO⟩:=dM.open O
 obtain⟨b,off,c,hv,hc⟩:=hO.pX (k:=1) rfl (by omega);simp only[Value.slice.injEq,true_and] at hv;obtain⟨rfl,rfl⟩:=hv;unfold mZ Gr.uD;rw[bq.F,if_pos rfl,if_pos rfl,D7.F];clear V;go_enter Tryz.func141,Tryz.ntmps141;clear O;have O:=hO;clear hO
 go_wp2_with (go_at_call 153;refine ak (HB.F _ _ (dM.mk O)) ?_;rintro J rfl)
 (refine cB (pO [0,1,2]<|rO [3]<|pO [4,5,6,7]<|rO [8]<|pO [9,10,11]<|rO [12]<|pO [13,14,15,16,17,18]<|aO [19]<| .e) [19] O ?_;clear O;intro J O)
 repeat (first
  |(refine bG O ?_;go_frame)
  |(refine bR O ?_;(first
   |refine qV ?_
   |refine⟨_,AX _ _ (by rfl) _ _ (by rfl) (aI (by rfl)) hz1 k 3 (by omega) HX.F (by rfl),?_⟩);go_frame)
  |(refine bY fun K hK=>?_;(refine DD O _ _ _ (by rfl) _ _ (by rfl) (.int .i64 ((x4 |||2 ^ t:Nat):Int)) (by rw[<-DW.F];rfl) (by rfl) (bz (by rfl)) hz1 rfl k 3 (by omega) HX.F ⟨x1,x2,x3,x4 |||2 ^ t,x5,x6⟩ (by rfl) (by decide) ?_;clear O;intro J O;dsimp only[aD,aN] at O);refine hK.go O ?_;clear hK K;go_frame))
 refine bO ?_;go_wp2;go_ret;exact⟨rfl,dM.with (by simpa using O)⟩
theorem alF {p:Nat} {G:Gr} (O:Sat W w (dM p G::L)) (n s:Int) (hm:∀x∈G.N,x.mark<256/\x.clear<256):
  Calls Tryz.prog 142 #[.pointer (some ⟨p,0,none⟩), .int .i64 n, .int .i64 s] w fun e w'=>e= .returned (.int .i64 (mZ G n s))/\Sat W w' (dM p (G.uo n s)::L):=by
 cases hb:sU G n s
 ·have HB:=Z (Oo O n s hb);unfold mZ Gr.uo;rw[hb];clear hb;go_enter Tryz.func142,Tryz.ntmps142
  go_wp2_with (go_at_call 153;refine HB.F.mono ?_;rintro e J ⟨rfl,rfl⟩)
  go_ret;exact⟨rfl,O⟩
 have HB:=Z (fun w L (h:Sat W w (dM p G::L))=>Oo h n s hb)
 obtain⟨t,rfl,ht⟩:∃t:Nat,s=t/\t<8:=by
  unfold sU at hb;simp only[ed,decide_eq_true_eq] at hb;exact⟨s.toNat,by omega,by omega⟩
 obtain⟨k,rfl,hk⟩:=Gr.xB (ME hb).1;have bq:=Z hb;obtain⟨⟨x1,x2,x3,x4,x5,x6⟩,V⟩:∃x,G.N[k]? =some x:=⟨_,aR hk⟩
 have HX:=Z V;have hm:=hm _ (bJ V);dsimp only at hm;have hsh:min (IntKind.u64.wrap (t:Int)).toNat 64=t:=by rw[IntWalk.u64_in _ (by omega)];omega
 have DW:=Z (show bits .or .i64 (x5:Int) (IntKind.i64.wrap (2 ^ min (IntKind.u64.wrap (t:Int)).toNat 64))=((x5 |||2 ^ t:Nat):Int) by rw[hsh];exact or_bit x5 t (by omega) (by omega));clear hsh;have D7:=Z (Gr.Ie V);have j1:(k:Int)< (G.N.length:Int):=by omega
 have j2:(t:Int)<8:=by omega
 have j3:t<8:=ht;clear hb hm;obtain⟨an,cn,ae,ce,hcn,hce,hO⟩:=dM.open O
 obtain⟨b,off,c,hv,hc⟩:=hO.pX (k:=1) rfl (by omega);simp only[Value.slice.injEq,true_and] at hv;obtain⟨rfl,rfl⟩:=hv;unfold mZ Gr.uo;rw[bq.F,if_pos rfl,if_pos rfl,D7.F];clear V;go_enter Tryz.func142,Tryz.ntmps142;clear O;have O:=hO;clear hO
 go_wp2_with (go_at_call 153;refine ak (HB.F _ _ (dM.mk O)) ?_;rintro J rfl)
 (refine cB (pO [0,1,2]<|rO [3]<|pO [4,5,6,7]<|rO [8]<|pO [9,10,11]<|rO [12]<|pO [13,14,15,16,17,18]<|aO [19]<| .e) [19] O ?_;clear O;intro J O)
 repeat (first
  |(refine bG O ?_;go_frame)
  |(refine bR O ?_;(first
   |refine qV ?_
   |refine⟨_,AX _ _ (by rfl) _ _ (by rfl) (aI (by rfl)) hz1 k 4 (by omega) HX.F (by rfl),?_⟩);go_frame)
  |(refine bY fun K hK=>?_;(refine DD O _ _ _ (by rfl) _ _ (by rfl) (.int .i64 ((x5 |||2 ^ t:Nat):Int)) (by rw[<-DW.F];rfl) (by rfl) (bz (by rfl)) hz1 rfl k 4 (by omega) HX.F ⟨x1,x2,x3,x4,x5 |||2 ^ t,x6⟩ (by rfl) (by decide) ?_;clear O;intro J O;dsimp only[aD,aN] at O);refine hK.go O ?_;clear hK K;go_frame))
 refine bO ?_;go_wp2;go_ret;exact⟨rfl,dM.with (by simpa using O)⟩
theorem amt {p:Nat} {G:Gr} (O:Sat W w (dM p G::L)) (a b:Int) (hG:G.N.length<=1000000):
  Calls Tryz.prog 143 #[.pointer (some ⟨p,0,none⟩), .int .i64 a, .int .i64 b] w fun e w'=>e= .returned (.int .i64 (vz G a b))/\Sat W w' (dM p (G.sF a b)::L):=by
 by_cases I:a<0
 ·have HF:=Z (show sG G a b=false by unfold sG;rw[bf (by omega:¬0<=a)];rfl);unfold vz Gr.sF;rw[HF.F];go_enter Tryz.func143,Tryz.ntmps143;go_wp2;go_ret;exact⟨rfl,O⟩
 have e1:decide (a<0)=false:=bf I
 by_cases H:b<a
 ·have HF:=Z (show sG G a b=false by unfold sG;rw[bf (by omega:¬a<=b)];simp);unfold vz Gr.sF;rw[HF.F];go_enter Tryz.func143,Tryz.ntmps143;go_wp2;go_ret;exact⟨rfl,O⟩
 have e2:decide (b<a)=false:=bf H;obtain⟨an,cn,ae,ce,hcn,hce,hO⟩:=dM.open O
 by_cases h3:(G.N.length:Int)<b
 ·have HF:=Z (show sG G a b=false by unfold sG;rw[bf (by omega:¬b<=(G.N.length:Int))];simp);unfold vz Gr.sF;rw[HF.F];go_enter Tryz.func143,Tryz.ntmps143
  go_wp2_with (refine bB hO ?_ (hk:=aa))
  go_ret;exact⟨rfl,O⟩
 have HF:=Z (show sG G a b=true by unfold sG;simp;omega);have e3:decide ((G.N.length:Int)<b)=false:=bf h3;unfold vz Gr.sF;rw[HF.F,if_pos rfl,if_pos rfl];obtain⟨i,rfl⟩:=Int.eq_ofNat_of_zero_le (show 0<=a by omega);obtain⟨j,rfl⟩:=Int.eq_ofNat_of_zero_le (show 0<=b by omega);have hij:i<=j:=by omega
 have hjl:j<=G.N.length:=by omega
 have hji:(j:Int)<=1000000:=by omega
 have e4:decide (j<i)=false:=bf (by omega);have e5:decide (G.N.length<j)=false:=bf (by omega);clear I H h3 HF;have H0:=Z (show Sat W w (Cs p 190 [.slice an G.N.length cn, .slice ae G.E.length ce]::Tb 214 6 nv (.slice an G.N.length cn) (uI G.N i i)::Tb 218 2 ev (.slice ae G.E.length ce) G.E::L) by rw[aa0];exact hO);go_enter Tryz.func143,Tryz.ntmps143
 go_wp2_with (refine bB hO ?_ (hk:=aa))
 clear O hO;go_loopw [7] (fun vi wz=>∃k:Nat,i<=k/\k<=j/\vi= .int .i64 k/\Sat W wz (Cs p 190 [.slice an G.N.length cn, .slice ae G.E.length ce]::Tb 214 6 nv (.slice an G.N.length cn) (uI G.N i k)::Tb 218 2 ev (.slice ae G.E.length ce) G.E::L)) (fun vi _=>j-(intOf vi).toNat)
 case atStart=>exact⟨i,aZ _,hij,rfl,H0.F⟩
 case round=>
  clear H0;obtain⟨k,hik,hkj,rfl,O⟩:=hrel
  by_cases hlt:k<j
  ·have j1:(k:Int)< (j:Int):=by omega
   have j2:(k:Int)< (G.N.length:Int):=by omega
   obtain⟨⟨x1,x2,x3,x4,x5,x6⟩,V⟩:∃x,(uI G.N i k)[k]? =some x:=⟨_,aR (by rw[Fu];omega)⟩
   have HX:=Z V;have HST:=Z (aa2 V hik);obtain⟨bb,off,c,he,_⟩:=O.pX (k:=1) rfl (by rw[Fu];omega);simp only[Value.slice.injEq] at he;obtain⟨rfl,Si,rfl⟩:=he;clear Si;have aM:=Z (Fu G.N i k);clear V
   go_wp2_with (first
    |(refine bB O ?_)
    |(refine aU ?_;refine DD O _ _ _ (by rfl) _ _ (by rfl) (.bool true) (by rfl) (by rfl) (bz (by rfl)) hz1 aM.F k 5 (by omega) HX.F ⟨x1,x2,x3,x4,x5,true⟩ (by rfl) (by decide) ?_;clear O;intro J O;dsimp only[aD,aN] at O;rw[HST.F] at O))
   exact⟨⟨k+1,by omega,by omega,by go_num,O⟩,by simp[intOf];omega⟩
  ·obtain rfl:k=j:=by omega
   go_wp2;go_ret;refine⟨rfl,dM.with (vn:= .slice an G.N.length cn) (ve:= .slice ae G.E.length ce) ?_⟩;simp only[fu];exact O
def apE (R:Nat->Bool) (i:Nat):List Nat:=(List.range i).filter R

end Go.Proofs.YtjbiihbicknemaaGreat
