/- What the proof of the statement leans on (part 25). -/
import Derived.Test.YtfegacfjgjaghaaGreatDoorQx

namespace Go.Proofs.YtfegacfjgjaghaaGreatDoor
theorem glu_pre (n:Nat):(∀(x:Nd) (st:RuS) (i:Nat),i<st.1.length→(glu n x st).2.1[i]? =st.1[i]?)∧True:=by
 have key:∀m,(∀(x:Nd) (st:RuS) (i:Nat),szN x≤m→i<st.1.length→(glu n x st).2.1[i]? =st.1[i]?)∧(∀(l:List Nd) (p:PartP) (st:RuS) (i:Nat),szL l≤m→i<st.1.length→(gluCat n l p st).2.1[i]? =st.1[i]? ∧i<(gluCat n l p st).2.1.length)∧(∀(l:List Nd) (p:PartP) (st:RuS) (i:Nat),szL l≤m→i<st.1.length→(gluAlt n l p st).2.1[i]? =st.1[i]? ∧i<(gluAlt n l p st).2.1.length):=by
  intro m
  induction m with
  |zero =>
   refine⟨fun x st i h=>absurd h (by have:=szN_pos x;omega),fun l p st i h hi=>?_,fun l p st i h hi=>?_⟩
   · cases l with
     |nil=>rw[gluCat];exact⟨rfl,hi⟩
     |cons x r=>exact absurd h (by have:=szN_pos x;simp only[szL];omega)
   · cases l with
     |nil=>rw[gluAlt];exact⟨rfl,hi⟩
     |cons x r=>exact absurd h (by have:=szN_pos x;simp only[szL];omega)
  |succ m ih =>
   have hx:∀(x:Nd) (st:RuS) (i:Nat),szN x≤m+1→i<st.1.length→(glu n x st).2.1[i]? =st.1[i]? :=by
    intro x st i h hi;obtain⟨k,s,kids⟩:=x;simp only[szN] at h;rw[glu];split
    · simp only;rw[List.getElem?_append_left hi]
    · split
      · exact(ih.2.1 kids _ st i (by omega) hi).1
      · split
        · exact(ih.2.2 kids _ st i (by omega) hi).1
        · have h1:(gluOne n kids st).2.1[i]? =st.1[i]? :=by
           cases kids with
           |nil=>rw[gluOne]
           |cons x r=>rw[gluOne];exact ih.1 x st i (by simp only[szL] at h;omega) hi
          split
          · exact h1
          · split
            · exact h1
            · rfl
   have hlt:∀(x:Nd) (st:RuS) (i:Nat),szN x≤m+1→i<st.1.length→i<(glu n x st).2.1.length:=fun x st i h hi=>by
    have:=hx x st i h hi;rw[List.getElem?_eq_getElem hi] at this;exact(List.getElem?_eq_some_iff.1 this).1
   refine⟨hx,fun l=>?_,fun l=>?_⟩
   · induction l with
     |nil=>intro p st i _ hi;rw[gluCat];exact⟨rfl,hi⟩
     |cons x r ihl =>
      intro p st i h hi;simp only[szL] at h;have hp:=szN_pos x;rw[gluCat];have h1:=ihl (catPart p (glu n x st).1) ((glu n x st).2.1,followB p.last (glu n x st).1.first (glu n x st).2.2) i (by omega) (hlt x st i (by omega) hi);exact⟨h1.1.trans (hx x st i (by omega) hi),h1.2⟩
   · induction l with
     |nil=>intro p st i _ hi;rw[gluAlt];exact⟨rfl,hi⟩
     |cons x r ihl =>
      intro p st i h hi;simp only[szL] at h;have hp:=szN_pos x;rw[gluAlt];have h1:=ihl (altPart p (glu n x st).1) (glu n x st).2 i (by omega) (hlt x st i (by omega) hi);exact⟨h1.1.trans (hx x st i (by omega) hi),h1.2⟩
 exact⟨fun x st i=>(key (szN x)).1 x st i (Nat.le_refl _),trivial⟩
def SetsOf (S:Nat→UInt8→Prop) (sets:List Nat) (lo:Nat):Prop:=∀q,lo≤q→q<sets.length→∀c,S q c↔∃s,sets[q]? =some s∧s.testBit c.toNat=true
theorem SetsOf.sub {S:Nat→UInt8→Prop}{sets s':List Nat}{lo lo':Nat}(h:SetsOf S sets lo) (hlo:lo≤lo') (hle:s'.length≤sets.length) (hpre:∀i,i<s'.length→sets[i]? =s'[i]?):SetsOf S s' lo':=fun q h1 h2 c=>by
 rw[h q (by omega) (by omega) c,hpre q h2]
theorem gluCat_pre (n:Nat):∀(l:List Nd) (p:PartP) (st:RuS) (i:Nat),i<st.1.length→(gluCat n l p st).2.1[i]? =st.1[i]?
 | [],p,st,i,hi=>by rw[gluCat]
 |x::r,p,st,i,hi=>by
  rw[gluCat];have h:=(glu_pre n).1 x st i hi;rw[gluCat_pre n r _ _ i (by rw[List.getElem?_eq_getElem hi] at h;exact(List.getElem?_eq_some_iff.1 h).1)];exact h
theorem gluAlt_pre (n:Nat):∀(l:List Nd) (p:PartP) (st:RuS) (i:Nat),i<st.1.length→(gluAlt n l p st).2.1[i]? =st.1[i]?
 | [],p,st,i,hi=>by rw[gluAlt]
 |x::r,p,st,i,hi=>by
  rw[gluAlt];have h:=(glu_pre n).1 x st i hi;rw[gluAlt_pre n r _ _ i (by rw[List.getElem?_eq_getElem hi] at h;exact(List.getElem?_eq_some_iff.1 h).1)];exact h
section
variable {S:Nat→UInt8→Prop}(n:Nat)
def GluOf (S:Nat→UInt8→Prop) (lo hi:Nat) (p:PartP) (bh bh':List (List Bool)) (A:By→Prop):Prop :=
 ∃Fol,Glu S lo hi p.null (On p.first) (On p.last) Fol A∧∀a b,Bh bh' a b↔Bh bh a b∨Fol a b
theorem gluNone (st:RuS) (A:By→Prop) (b:Bool) (hA:∀u,A u→u=[]) (hb:b=true↔A []):Glu S st.1.length st.1.length b (On (nob n)) (On (nob n)) (fun _ _=>False) A :=
 (Glu.none_ A hA hb).congr (fun q=>⟨fun h=>on_nob n q h,fun h=>h.elim⟩) (fun q=>⟨fun h=>on_nob n q h,fun h=>h.elim⟩) (fun _ _=>Iff.rfl) (fun _=>Iff.rfl)
mutual
theorem glu_spec:∀(x:Nd) (st:RuS),RuOk n st→wfN x=true→st.1.length+cnt x≤n→SetsOf S (glu n x st).2.1 st.1.length →
 GluOf S st.1.length (glu n x st).2.1.length (glu n x st).1 st.2 (glu n x st).2.2 (Lng x)
 |.mk k s kids,st,hok,hw,hn,hS=>by
  have hwl:wfL kids=true:=by simp only[wfN,Bool.and_eq_true] at hw;exact hw.2
  simp only[cnt] at hn;rw[glu] at hS ⊢;unfold Lng
  by_cases h1:k=1
  · simp only[if_pos h1,List.length_append,List.length_singleton] at hS hn ⊢;refine⟨fun _ _=>False,Glu.byte.congr (fun q=>on_set (by omega) q) (fun q=>on_set (by omega) q) (fun _ _=>Iff.rfl) (fun u=>?_),fun a b=>by simp⟩;have hS:=hS st.1.length (Nat.le_refl _) (by simp);constructor
    · rintro⟨c,rfl,hc⟩;exact⟨c,rfl,(hS c).2 ⟨s,by simp,hc⟩⟩
    · rintro⟨c,rfl,hc⟩;obtain⟨s',hs',hc⟩:=(hS c).1 hc;simp at hs';subst hs';exact⟨c,rfl,hc⟩
  · simp only[if_neg h1] at hS hn ⊢
    by_cases h2:k=2
    · simp only[if_pos h2] at hS ⊢;have h0:Glu S st.1.length st.1.length true (On (nob n)) (On (nob n)) (fun _ _=>False) (fun w=>w=[]):=gluNone n st _ _ (fun _ h=>h) (by simp);obtain⟨Fol,hG,hB⟩:=gluCat_spec kids ⟨true,nob n,nob n⟩ st hok (nob_ok n _) hwl (by omega) st.1.length (Nat.le_refl _) hS _ (Bh st.2) _ h0 (fun a b=>⟨fun h=>.inl h,fun h=>h.elim id False.elim⟩);refine⟨Fol,hG.congr (fun _=>Iff.rfl) (fun _=>Iff.rfl) (fun _ _=>Iff.rfl) (fun u=>?_),hB⟩;constructor
      · intro h;exact⟨[],u,rfl,rfl,h⟩
      · rintro⟨a,b,rfl,rfl,h⟩;exact h
    · simp only[if_neg h2] at hS ⊢
      by_cases h3:k=3
      · simp only[if_pos h3] at hS ⊢;have h0:Glu S st.1.length st.1.length false (On (nob n)) (On (nob n)) (fun _ _=>False) (fun _=>False):=gluNone n st _ _ (fun _ h=>h.elim) (by simp);obtain⟨Fol,hG,hB⟩:=gluAlt_spec kids ⟨false,nob n,nob n⟩ st hok (nob_ok n _) hwl (by omega) st.1.length (Nat.le_refl _) hS _ (Bh st.2) _ h0 (fun a b=>⟨fun h=>.inl h,fun h=>h.elim id False.elim⟩);refine⟨Fol,hG.congr (fun _=>Iff.rfl) (fun _=>Iff.rfl) (fun _ _=>Iff.rfl) (fun u=>?_),hB⟩;simp
      · simp only[if_neg h3] at hS ⊢;have k1:=gluOne_ok n kids st hok
        by_cases h45:k=4∨k=5
        · simp only[if_pos h45] at hS ⊢;have h6:¬k=6:=by omega
          obtain⟨Fol,hG,hB⟩:=gluOne_spec kids st hok hwl (by omega) hS
          have hB2:∀a b,Bh (followB (gluOne n kids st).1.last (gluOne n kids st).1.first (gluOne n kids st).2.2) a b↔Bh st.2 a b∨Fol a b∨On (gluOne n kids st).1.last a∧On (gluOne n kids st).1.first b:=fun a b=>by
           rw[bh_follow k1.1.last k1.1.first k1.2.1,hB a b,or_assoc]
          by_cases h4:k=4
          · subst h4;simp only[if_neg h6];exact⟨_,hG.star _ (by simp),hB2⟩
          · have h5:k=5:=by omega
            subst h5;simp only[if_neg h6,if_neg h4];exact⟨_,by simpa using hG.plus,hB2⟩
        · simp only[if_neg h45] at hS ⊢;have h4:¬k=4:=fun e=>h45 (.inl e)
          have h5:¬k=5:=fun e=>h45 (.inr e)
          by_cases h6:k=6
          · simp only[if_pos h6] at hS ⊢;obtain⟨Fol,hG,hB⟩:=gluOne_spec kids st hok hwl (by omega) hS;exact⟨_,hG.opt,hB⟩
          · simp only[if_neg h6,if_neg h4,if_neg h5] at hS ⊢;exact⟨_,gluNone n st _ _ (fun _ h=>h) (by simp),fun a b=>by simp⟩
theorem gluCat_spec:∀(l:List Nd) (p:PartP) (st:RuS),RuOk n st→PartOk n p→wfL l=true→st.1.length+cntL l≤n→∀lo,lo≤st.1.length→SetsOf S (gluCat n l p st).2.1 lo →
 ∀(Fol0 B0:Nat→Nat→Prop) (A:By→Prop),Glu S lo st.1.length p.null (On p.first) (On p.last) Fol0 A→(∀a b,Bh st.2 a b↔B0 a b∨Fol0 a b) →
 ∃Fol,Glu S lo (gluCat n l p st).2.1.length (gluCat n l p st).1.null (On (gluCat n l p st).1.first) (On (gluCat n l p st).1.last) Fol (fun w=>∃u v,w=u++v∧A u∧LngCat l v)∧∀a b,Bh (gluCat n l p st).2.2 a b↔B0 a b∨Fol a b
 | [],p,st,hok,hp,hw,hn,lo,hlo,hS,Fol0,B0,A,hG,hB=>by
  rw[gluCat];unfold LngCat;refine⟨Fol0,hG.congr (fun _=>Iff.rfl) (fun _=>Iff.rfl) (fun _ _=>Iff.rfl) (fun u=>?_),hB⟩;constructor
  · rintro⟨a,b,rfl,h,rfl⟩;simpa using h
  · intro h;exact⟨u,[],by simp,h,rfl⟩
 |x::r,p,st,hok,hp,hw,hn,lo,hlo,hS,Fol0,B0,A,hG,hB=>by
  simp only[wfL,Bool.and_eq_true] at hw;simp only[cntL] at hn;rw[gluCat] at hS ⊢;unfold LngCat;have k1:=glu_ok n x st hok;have hle:=k1.2.2.1;have hle2:=k1.2.2.2 hw.1;have hok2:=follow_ok (S:=(glu n x st).2.1) hp.last k1.1.first k1.2.1
  have hpre:=gluCat_pre n r (catPart p (glu n x st).1) ((glu n x st).2.1,followB p.last (glu n x st).1.first (glu n x st).2.2);have hmono:=(gluCat_ok n r (catPart p (glu n x st).1) ((glu n x st).2.1,followB p.last (glu n x st).1.first (glu n x st).2.2) (catPart_ok hp k1.1) hok2).2.2.1;obtain⟨Fol,hx,hxB⟩:=glu_spec x st hok hw.1 (by omega) (hS.sub hlo hmono hpre);have hcat:=hG.cat hx hlo hle
  have hcat':=hcat.congr (F':=On (catPart p (glu n x st).1).first) (L':=On (catPart p (glu n x st).1).last) (fun q=>by
   simp only[catPart];cases p.null with
   |true=>simp only[if_pos,true_and];exact on_or (by rw[hp.first,k1.1.first]) q
   |false=>simp) (fun q=>by
   simp only[catPart];cases (glu n x st).1.null with
   |true=>simp only[if_pos,true_and];rw[on_or (by rw[hp.last,k1.1.last]) q,or_comm]
   |false=>simp) (fun _ _=>Iff.rfl) (fun _=>Iff.rfl)
  obtain⟨Fol',hG',hB'⟩:=gluCat_spec r (catPart p (glu n x st).1) ((glu n x st).2.1,followB p.last (glu n x st).1.first (glu n x st).2.2) hok2 (catPart_ok hp k1.1) hw.2 (by simp only;omega) lo (by simp only;omega) hS
   (fun a b=>Fol0 a b∨Fol a b∨On p.last a∧On (glu n x st).1.first b) B0 _ hcat' (fun a b=>by
    rw[bh_follow hp.last k1.1.first k1.2.1,hxB a b,hB a b];simp only[or_assoc])
  · refine⟨Fol',hG'.congr (fun _=>Iff.rfl) (fun _=>Iff.rfl) (fun _ _=>Iff.rfl) (fun u=>?_),hB'⟩;constructor
    · rintro⟨a,b,rfl,ha,c,d,rfl,hc,hd⟩;exact⟨a++c,d,by simp,⟨a,c,rfl,ha,hc⟩,hd⟩
    · rintro⟨_,d,rfl,⟨a,c,rfl,ha,hc⟩,hd⟩;exact⟨a,c++d,by simp,ha,c,d,rfl,hc,hd⟩
theorem gluAlt_spec:∀(l:List Nd) (p:PartP) (st:RuS),RuOk n st→PartOk n p→wfL l=true→st.1.length+cntL l≤n→∀lo,lo≤st.1.length→SetsOf S (gluAlt n l p st).2.1 lo →
 ∀(Fol0 B0:Nat→Nat→Prop) (A:By→Prop),Glu S lo st.1.length p.null (On p.first) (On p.last) Fol0 A→(∀a b,Bh st.2 a b↔B0 a b∨Fol0 a b) →
 ∃Fol,Glu S lo (gluAlt n l p st).2.1.length (gluAlt n l p st).1.null (On (gluAlt n l p st).1.first) (On (gluAlt n l p st).1.last) Fol (fun w=>A w∨LngAlt l w)∧∀a b,Bh (gluAlt n l p st).2.2 a b↔B0 a b∨Fol a b
 | [],p,st,hok,hp,hw,hn,lo,hlo,hS,Fol0,B0,A,hG,hB=>by
  rw[gluAlt];unfold LngAlt;exact⟨Fol0,hG.congr (fun _=>Iff.rfl) (fun _=>Iff.rfl) (fun _ _=>Iff.rfl) (fun u=>by simp),hB⟩
 |x::r,p,st,hok,hp,hw,hn,lo,hlo,hS,Fol0,B0,A,hG,hB=>by
  simp only[wfL,Bool.and_eq_true] at hw;simp only[cntL] at hn;rw[gluAlt] at hS ⊢;unfold LngAlt;have k1:=glu_ok n x st hok;have hle:=k1.2.2.1;have hle2:=k1.2.2.2 hw.1;have hpre:=gluAlt_pre n r (altPart p (glu n x st).1) (glu n x st).2;have hmono:=(gluAlt_ok n r (altPart p (glu n x st).1) (glu n x st).2 (altPart_ok hp k1.1) k1.2.1).2.2.1;obtain⟨Fol,hx,hxB⟩:=glu_spec x st hok hw.1 (by omega) (hS.sub hlo hmono hpre);have hcat:=hG.alt hx hlo hle
  obtain⟨Fol',hG',hB'⟩:=gluAlt_spec r (altPart p (glu n x st).1) (glu n x st).2 k1.2.1 (altPart_ok hp k1.1) hw.2 (by omega) lo (by omega) hS
   (fun a b=>Fol0 a b∨Fol a b) B0 _ (hcat.congr (fun q=>on_or (by rw[hp.first,k1.1.first]) q) (fun q=>on_or (by rw[hp.last,k1.1.last]) q) (fun _ _=>Iff.rfl) (fun _=>Iff.rfl)) (fun a b=>by
    rw[hxB a b,hB a b];simp only[or_assoc])
  exact⟨Fol',hG'.congr (fun _=>Iff.rfl) (fun _=>Iff.rfl) (fun _ _=>Iff.rfl) (fun u=>by simp only[or_assoc]),hB'⟩
theorem gluOne_spec:∀(l:List Nd) (st:RuS),RuOk n st→wfL l=true→st.1.length+cntL l≤n→SetsOf S (gluOne n l st).2.1 st.1.length →
 GluOf S st.1.length (gluOne n l st).2.1.length (gluOne n l st).1 st.2 (gluOne n l st).2.2 (LngOne l)
 | [],st,hok,hw,hn,hS=>by
  rw[gluOne];unfold LngOne;exact⟨_,gluNone n st _ _ (fun _ h=>h) (by simp),fun a b=>by simp⟩
 |x::r,st,hok,hw,hn,hS=>by
  simp only[wfL,Bool.and_eq_true] at hw;simp only[cntL] at hn;rw[gluOne] at hS ⊢;unfold LngOne;exact glu_spec x st hok hw.1 (by omega) hS
end
end
structure RuleOk (r:RuP) (n:Nat):Prop where
 pos:0<r.sets.length
 sets:r.sets.length≤n
 rows:r.behind.length=n
 each:∀b∈r.behind,b.length=n
 last:r.last.length=n
theorem of_ok {x:Nd}(hw:wfN x=true):RuleOk (ofP x) (cnt x+1):=by
 have h0:RuOk (cnt x+1) ([0],List.replicate (cnt x+1) (nob (cnt x+1))):=⟨by simp,fun b hb=>by rw[(List.mem_replicate.1 hb).2];exact nob_len _⟩
 have k:=glu_ok (cnt x+1) x ([0],List.replicate (cnt x+1) (nob (cnt x+1))) h0;have h1:=k.2.2.1;have h2:=k.2.2.2 hw;simp only[List.length_singleton] at h1 h2;refine⟨by simp only[ofP];omega,by simp only[ofP];omega,by simp only[ofP,List.length_set];exact k.2.1.rows,fun b hb=>?_,by simp only[ofP,List.length_set];exact k.1.last⟩;simp only[ofP] at hb
 rcases List.mem_or_eq_of_mem_set hb with h|rfl
 · exact k.2.1.each b h
 · exact k.1.first
abbrev RAcc (r:RuP):Nat→By→Prop:=PAcc (fun q c=>∃s,r.sets[q]? =some s∧s.testBit c.toNat=true) (fun p q=>Bh r.behind p q∧0<q∧q<r.sets.length) (On r.last)
theorem of_lng {x:Nd}(hw:wfN x=true) (w:By):RAcc (ofP x) 0 w↔Lng x w:=by
 have h0:RuOk (cnt x+1) ([0],List.replicate (cnt x+1) (nob (cnt x+1))):=⟨by simp,fun b hb=>by rw[(List.mem_replicate.1 hb).2];exact nob_len _⟩
 have k:=glu_ok (cnt x+1) x ([0],List.replicate (cnt x+1) (nob (cnt x+1))) h0;have hrows:=k.2.1.rows;have hlast:=k.1.last;obtain⟨Fol,hG,hB⟩:=glu_spec (S:=fun q c=>∃s,(ofP x).sets[q]? =some s∧s.testBit c.toNat=true) (cnt x+1) x ([0],List.replicate (cnt x+1) (nob (cnt x+1))) h0 hw (by simp;omega) (fun q _ _ c=>Iff.rfl);simp only[List.length_singleton] at hG hB
 have hB0:∀a b,¬Bh (List.replicate (cnt x+1) (nob (cnt x+1))) a b:=by
  rintro a b ⟨l,hl,ho⟩;rw[List.getElem?_replicate] at hl;split at hl
  · cases hl;exact on_nob _ _ ho
  · cases hl
 have hb0:∀q,Bh (ofP x).behind 0 q↔On (glu (cnt x+1) x ([0],List.replicate (cnt x+1) (nob (cnt x+1)))).1.first q:=fun q=>by
  simp only[ofP,Bh];rw[List.getElem?_set_self (by omega)];simp
 have hbp:∀p q,0<p→(Bh (ofP x).behind p q↔Fol p q):=fun p q hp=>by
  have:Bh (ofP x).behind p q↔Bh (glu (cnt x+1) x ([0],List.replicate (cnt x+1) (nob (cnt x+1)))).2.2 p q:=by
   simp only[ofP,Bh];rw[List.getElem?_set_ne (by omega)]
  rw[this,hB p q];exact⟨fun h=>h.elim (fun h=>(hB0 _ _ h).elim) id,.inr⟩
 have he0:On (ofP x).last 0↔(glu (cnt x+1) x ([0],List.replicate (cnt x+1) (nob (cnt x+1)))).1.null=true:=by
  simp only[ofP,On];rw[List.getElem?_set_self (by omega)];simp
 have hep:∀p,0<p→(On (ofP x).last p↔On (glu (cnt x+1) x ([0],List.replicate (cnt x+1) (nob (cnt x+1)))).1.last p):=fun p hp=>by
  simp only[ofP,On];rw[List.getElem?_set_ne (by omega)]
 have hsl:(ofP x).sets.length=(glu (cnt x+1) x ([0],List.replicate (cnt x+1) (nob (cnt x+1)))).2.1.length:=rfl
 have hE:=hG.ent (fun p q=>Bh (ofP x).behind p q∧0<q∧q<(ofP x).sets.length) (On (ofP x).last) (fun _=>False) True (fun p q hp _=>by
  rw[hbp p q (by omega)];constructor
  · rintro⟨h,_⟩;exact .inl h
  · rintro(h|⟨_,h⟩)
    · have:=hG.gr p q h;exact⟨h,by omega,by omega⟩
    · exact h.elim) (fun p hp _=>by rw[hep p (by omega)];simp)
 cases w with
 |nil =>
  rw[←hG.nul,←he0];constructor
  · intro h;cases h with|done h=>exact h
  · exact .done
 |cons c w =>
  have h1:RAcc (ofP x) 0 (c::w)↔Ent (fun q c=>∃s,(ofP x).sets[q]? =some s∧s.testBit c.toNat=true) (fun p q=>Bh (ofP x).behind p q∧0<q∧q<(ofP x).sets.length) (On (ofP x).last) (On (glu (cnt x+1) x ([0],List.replicate (cnt x+1) (nob (cnt x+1)))).1.first) (c::w):=by
   constructor
   · intro h;cases h with
     |go hg hs hp=>exact⟨c,w,rfl,_,(hb0 _).1 hg.1,hs,hp⟩
   · rintro⟨c',w',e,q,hq,hs,hp⟩;cases e;have:=hG.fr q hq;exact .go ⟨(hb0 _).2 hq,by omega,by omega⟩ hs hp
  rw[h1,hE];constructor
  · rintro⟨u,v,e,_,hu,⟨rfl,_⟩|hv⟩
    · rw[e];simpa using hu
    · exact(Ent.false hv).elim
  · intro h;exact⟨c::w,[],by simp,by simp,h,.inl ⟨rfl,trivial⟩⟩
def startR (r:RuP):List Bool:=(nob r.sets.length).set 0 true
def orsB:List Bool→List (List Bool)→List Bool→List Bool
 |a::at_,b::bh,out=>orsB at_ bh (if a then orB out b else out)
 |_,_,out=>out
def andB (c:UInt8):Nat→List Bool→List Nat→List Bool
 |q,o::out,s::sets=>(o && decide (0<q) && s.testBit c.toNat)::andB c (q+1) out sets
 |_,_,_=>[]
def stepR (r:RuP) (at_:List Bool) (c:UInt8):List Bool:=andB c 0 (orsB at_ r.behind (nob at_.length)) r.sets
def endsR (r:RuP) (at_:List Bool):Bool:=(List.zipWith (· && ·) at_ r.last).any id
def anyR (at_:List Bool):Bool:=at_.any id
theorem on_or' {a b:List Bool}(h:a.length≤b.length) (i:Nat):On (orB a b) i↔i<a.length∧(On a i∨On b i):=by
 unfold On orB;rw[List.getElem?_zipWith]
 by_cases hi:i<a.length
 · rw[List.getElem?_eq_getElem hi,List.getElem?_eq_getElem (by omega)];simp[hi]
 · rw[List.getElem?_eq_none (by omega)];simp[hi]
theorem orsB_len:∀(at_:List Bool) (bh:List (List Bool)) (out:List Bool),(∀b∈bh,out.length≤b.length)→(orsB at_ bh out).length=out.length
 | [],_,_,_=>by simp[orsB]
 |_::_,[],_,_=>by simp[orsB]
 |a::at_,b::bh,out,h=>by
  rw[orsB]
  have hl:(if a then orB out b else out).length=out.length:=by
   split
   · have:=h b (by simp);simp[orB];omega
   · rfl
  rw[orsB_len at_ bh _ (fun b hb=>by rw[hl];exact h b (by simp[hb])),hl]
theorem on_orsB:∀(at_:List Bool) (bh:List (List Bool)) (out:List Bool),(∀b∈bh,out.length≤b.length)→at_.length≤bh.length→∀q,On (orsB at_ bh out) q↔q<out.length∧(On out q∨∃p,On at_ p∧Bh bh p q)
 | [],bh,out,_,_,q=>by
  have e:orsB [] bh out=out:=by simp[orsB]
  rw[e];constructor
  · intro h;exact⟨(List.getElem?_eq_some_iff.1 h).1,.inl h⟩
  · rintro⟨_,h|⟨p,h,_⟩⟩
    · exact h
    · simp[On] at h
 |_::_,[],_,_,h,_=>by simp at h
 |a::at_,b::bh,out,h,hl,q=>by
  rw[orsB];have hbl:=h b (by simp)
  have hlen:(if a then orB out b else out).length=out.length:=by
   split
   · simp[orB];omega
   · rfl
  rw[on_orsB at_ bh _ (fun b hb=>by rw[hlen];exact h b (by simp[hb])) (by simpa using hl) q,hlen]
  have e:(∃p,On (a::at_) p∧Bh (b::bh) p q)↔(a=true∧On b q)∨∃p,On at_ p∧Bh bh p q:=by
   constructor
   · rintro⟨p,hp,hb⟩;cases p with
     |zero =>
      obtain⟨x,hx,ho⟩:=hb;simp at hx;subst hx;exact .inl ⟨by simpa [On] using hp,ho⟩
     |succ p=>exact .inr ⟨p,by simpa [On] using hp,by simpa [Bh] using hb⟩
   · rintro(⟨ha,ho⟩|⟨p,hp,hb⟩)
     · exact⟨0,by simp[On,ha],b,by simp,ho⟩
     · exact⟨p+1,by simpa [On] using hp,by simpa [Bh] using hb⟩
  rw[e];cases a with
  |true =>
   simp only[if_pos,true_and];rw[on_or' hbl];constructor
   · rintro⟨hq,⟨_,h|h⟩|h⟩
     · exact⟨hq,.inl h⟩
     · exact⟨hq,.inr (.inl h)⟩
     · exact⟨hq,.inr (.inr h)⟩
   · rintro⟨hq,h|h|h⟩
     · exact⟨hq,.inl ⟨hq,.inl h⟩⟩
     · exact⟨hq,.inl ⟨hq,.inr h⟩⟩
     · exact⟨hq,.inr h⟩
  |false=>simp
theorem andB_len (c:UInt8):∀(q:Nat) (out:List Bool) (sets:List Nat),out.length=sets.length→(andB c q out sets).length=out.length
 |_,[],[],_=>rfl
 |_,[],_::_,h=>by simp at h
 |_,_::_,[],h=>by simp at h
 |q,o::out,s::sets,h=>by rw[andB];simp[andB_len c (q+1) out sets (by simpa using h)]
theorem on_andB (c:UInt8):∀(k:Nat) (out:List Bool) (sets:List Nat) (q:Nat),On (andB c k out sets) q↔On out q∧0<k+q∧∃s,sets[q]? =some s∧s.testBit c.toNat=true
 |k,[],sets,q=>by simp[andB,On]
 |k,o::out,[],q=>by simp[andB,On]
 |k,o::out,s::sets,q=>by
  rw[andB];cases q with
  |zero=>simp[On,and_assoc]
  |succ q =>
   have:=on_andB c (k+1) out sets q;simp only[On,List.getElem?_cons_succ] at this ⊢;rw[this];have e:k+1+q=k+(q+1):=by omega
   rw[e]
theorem startR_len (r:RuP):(startR r).length=r.sets.length:=by simp[startR,nob_len]
theorem stepR_len {r:RuP}{n:Nat}(hr:RuleOk r n){a:List Bool}(ha:a.length=r.sets.length) (c:UInt8):(stepR r a c).length=r.sets.length:=by
 have h1:=hr.sets;unfold stepR;rw[andB_len,orsB_len,nob_len,ha]
 · intro b hb;rw[hr.each b hb,nob_len,ha];exact h1
 · rw[orsB_len,nob_len,ha];intro b hb;rw[hr.each b hb,nob_len,ha];exact h1
theorem on_step {r:RuP}{n:Nat}(hr:RuleOk r n){a:List Bool}(ha:a.length=r.sets.length) (c:UInt8) (q:Nat):On (stepR r a c) q↔(∃p,On a p∧Bh r.behind p q∧0<q∧q<r.sets.length)∧∃s,r.sets[q]? =some s∧s.testBit c.toNat=true:=by
 have h1:=hr.sets;unfold stepR;rw[on_andB,on_orsB _ _ _ (by intro b hb;rw[hr.each b hb,nob_len,ha];exact h1) (by rw[ha,hr.rows];exact h1),nob_len,ha];constructor
 · rintro⟨⟨hq,h|⟨p,hp,hb⟩⟩,h0,hs⟩
   · exact(on_nob _ _ h).elim
   · exact⟨⟨p,hp,hb,by omega,hq⟩,hs⟩
 · rintro⟨⟨p,hp,hb,h0,hq⟩,hs⟩;exact⟨⟨hq,.inr ⟨p,hp,hb⟩⟩,by omega,hs⟩
theorem on_any (l:List Bool):anyR l=true↔∃p,On l p:=by
 unfold anyR On;rw[List.any_eq_true];constructor
 · rintro⟨b,hb,h⟩;obtain⟨p,hp⟩:=List.getElem?_of_mem hb;exact⟨p,by rw[hp];simpa using h⟩
 · rintro⟨p,hp⟩;exact⟨true,List.mem_of_getElem? hp,rfl⟩
theorem on_ends (r:RuP) (a:List Bool):endsR r a=true↔∃p,On a p∧On r.last p:=by
 unfold endsR;rw[List.any_eq_true];constructor
 · rintro⟨b,hb,h⟩;obtain⟨p,hp⟩:=List.getElem?_of_mem hb;rw[List.getElem?_zipWith] at hp;split at hp
   · rename_i x y hx hy;cases hp;simp at h;exact⟨p,by rw[On,hx,h.1],by rw[On,hy,h.2]⟩
   · cases hp
 · rintro⟨p,h1,h2⟩;refine⟨true,?_,rfl⟩
   apply List.mem_of_getElem? (i:=p)
   rw[List.getElem?_zipWith,h1,h2];rfl
def runR (r:RuP) (w:By):List Bool:=w.foldl (stepR r) (startR r)
theorem runR_len {r:RuP}{n:Nat}(hr:RuleOk r n) (w:By):(runR r w).length=r.sets.length:=by
 have key:∀(w:By) (a:List Bool),a.length=r.sets.length→(w.foldl (stepR r) a).length=r.sets.length:=by
  intro w
  induction w with
  |nil=>intro a h;exact h
  |cons c w ih=>intro a h;exact ih _ (stepR_len hr h c)
 exact key w _ (startR_len r)
theorem runR_acc {r:RuP}{n:Nat}(hr:RuleOk r n) (w v:By):(∃p,On (runR r w) p∧RAcc r p v)↔RAcc r 0 (w++v):=by
 have key:∀(w:By) (a:List Bool),a.length=r.sets.length→((∃p,On (w.foldl (stepR r) a) p∧RAcc r p v)↔∃p,On a p∧RAcc r p (w++v)):=by
  intro w
  induction w with
  |nil=>intro a _;exact Iff.rfl
  |cons c w ih =>
   intro a ha;rw[List.foldl_cons,ih _ (stepR_len hr ha c)];constructor
   · rintro⟨q,hq,hv⟩;obtain⟨⟨p,hp,hb⟩,hs⟩:=(on_step hr ha c q).1 hq;exact⟨p,hp,.go hb hs hv⟩
   · rintro⟨p,hp,h⟩;cases h with
     |go hb hs hv=>exact⟨_,(on_step hr ha c _).2 ⟨⟨p,hp,hb⟩,hs⟩,hv⟩
 unfold runR;rw[key w _ (startR_len r)];constructor
 · rintro⟨p,hp,h⟩;have:=(on_set hr.pos p).1 hp;subst this;exact h
 · intro h;exact⟨0,(on_set hr.pos 0).2 rfl,h⟩
theorem ends_lng {x:Nd}(hw:wfN x=true) (w:By):endsR (ofP x) (runR (ofP x) w)=true↔Lng x w:=by
 rw[on_ends,←of_lng hw w];have h:=runR_acc (of_ok hw) w [];rw[List.append_nil] at h;rw[←h];constructor
 · rintro⟨p,h1,h2⟩;exact⟨p,h1,.done h2⟩
 · rintro⟨p,h1,h2⟩;cases h2 with
   |done h2=>exact⟨p,h1,h2⟩
def refG (r:RuP) (ri:Nat):By→List Bool→Nat→Int×Int×Int→Int×Int×Int
 |l,now,k,b =>
  if anyR now=false then b
  else match l with
   | []=>if endsR r now=true∧(b.2.1<0∨b.1<k) then (k,ri,if b.2.2<k then (k:Int) else b.2.2) else (b.1,b.2.1,if b.2.2<k then (k:Int) else b.2.2)
   |c::l=>refG r ri l (stepR r now c) (k+1) (if endsR r now=true∧(b.2.1<0∨b.1<k) then (k,ri,if b.2.2<k then (k:Int) else b.2.2) else (b.1,b.2.1,if b.2.2<k then (k:Int) else b.2.2))
def refGs:Nat→List RuP→By→Int×Int×Int→Int×Int×Int
 |_,[],_,b=>b
 |i,r::rs,l,b=>refGs (i+1) rs l (refG r i l (startR r) 0 b)
def refMatch (rs:List RuP) (l:By):Int×Int×Int:=refGs 0 rs l (0,-1,0)
def refLeast:Nat→List RuP→By→Int
 |_,[],_=> -1
 |i,r::rs,l=>if endsR r (runR r l)=true then i else refLeast (i+1) rs l
theorem refG_none {r:RuP}{ri:Nat}{l:By}{now:List Bool}{k:Nat}{b:Int×Int×Int}(h:anyR now=false):refG r ri l now k b=b:=by cases l<;>(rw[refG];exact if_pos h)
theorem stepR_none {r:RuP}{n:Nat}(hr:RuleOk r n){a:List Bool}(ha:a.length=r.sets.length) (h:anyR a=false) (c:UInt8):anyR (stepR r a c)=false:=by
 cases e:anyR (stepR r a c) with
 |false=>rfl
 |true =>
  obtain⟨q,hq⟩:=(on_any _).1 e;obtain⟨⟨p,hp,_⟩,_⟩:=(on_step hr ha c q).1 hq;rw[(on_any a).2 ⟨p,hp⟩] at h;cases h
theorem ends_any {r:RuP}{a:List Bool}(h:anyR a=false):endsR r a=false:=by
 cases e:endsR r a with
 |false=>rfl
 |true =>
  obtain⟨p,hp,_⟩:=(on_ends r a).1 e;rw[(on_any a).2 ⟨p,hp⟩] at h;cases h
def IsTop (Q:Nat→Nat→Prop) (o:Int×Int):Prop :=
 (o=(0,-1)∧∀k r,¬Q k r)∨∃k r:Nat,o=((k:Int),(r:Int))∧Q k r∧(∀k' r',Q k' r'→k'≤k)∧∀r',Q k r'→r≤r'
theorem IsTop.add {Q:Nat→Nat→Prop}{a b:Int}{k r:Nat}(h:IsTop Q (a,b)) (hold:∀k' r',Q k' r'→r'<r∨(r'=r∧k'<k)) (p:Bool) :
 IsTop (fun k' r'=>Q k' r'∨(k'=k∧r'=r∧p=true)) (if p=true∧(b<0∨a<k) then ((k:Int),(r:Int)) else (a,b)):=by
 cases p with
 |false =>
  rw[if_neg (by simp)];have e:(fun k' r'=>Q k' r'∨(k'=k∧r'=r∧false=true))=Q:=by funext k' r';simp
  rw[e];exact h
 |true =>
  rcases h with ⟨he,h1⟩|⟨k0,r0,he,hq,h1,h2⟩
  · cases he;rw[if_pos ⟨rfl,.inl (by decide)⟩];refine .inr ⟨k,r,rfl,.inr ⟨rfl,rfl,rfl⟩,fun k' r' hk=>?_,fun r' hr=>?_⟩
    · rcases hk with hk|⟨hk,_,_⟩
      · exact absurd hk (h1 _ _)
      · omega
    · rcases hr with hr|⟨_,hr,_⟩
      · exact absurd hr (h1 _ _)
      · omega
  · cases he
    by_cases hlt:k0<k
    · rw[if_pos ⟨rfl,.inr (by omega)⟩];refine .inr ⟨k,r,rfl,.inr ⟨rfl,rfl,rfl⟩,fun k' r' hk=>?_,fun r' hr=>?_⟩
      · rcases hk with hk|⟨hk,_,_⟩
        · have:=h1 _ _ hk;omega
        · omega
      · rcases hr with hr|⟨_,hr,_⟩
        · have:=h1 _ _ hr;omega
        · omega
    · rw[if_neg (by rintro⟨_,h|h⟩<;>omega)];refine .inr ⟨k0,r0,rfl,.inl hq,fun k' r' hk=>?_,fun r' hr=>?_⟩
      · rcases hk with hk|⟨hk,_,_⟩
        · exact h1 _ _ hk
        · omega
      · rcases hr with hr|⟨hk,hr,_⟩
        · exact h2 _ hr
        · have:=hold _ _ hq;omega
theorem refG_top {x:Nd}(hw:wfN x=true) (ri:Nat) (Q:Nat→Nat→Prop) (L:By):∀(l a:By) (b:Int×Int×Int),a++l=L →
 IsTop (fun k' r'=>Q k' r'∨(k'<a.length∧r'=ri∧Lng x (L.take k'))) (b.1,b.2.1)→(∀k' r',Q k' r'→r'<ri) →
 IsTop (fun k' r'=>Q k' r'∨(k'≤L.length∧r'=ri∧Lng x (L.take k'))) ((refG (ofP x) ri l (runR (ofP x) a) a.length b).1,(refG (ofP x) ri l (runR (ofP x) a) a.length b).2.1):=by
 have hok:=of_ok hw
 have dead:∀(l a:By),anyR (runR (ofP x) a)=false→∀k',a.length≤k'→k'≤(a++l).length→¬Lng x ((a++l).take k'):=by
  intro l a h k' h1 h2 hl;rw[←ends_lng hw] at hl;have e:(a++l).take k'=a++l.take (k'-a.length):=by rw[List.take_append,List.take_of_length_le h1]
  rw[e] at hl
  have key:∀(v:By) (T:List Bool),T.length=(ofP x).sets.length→anyR T=false→anyR (v.foldl (stepR (ofP x)) T)=false:=by
   intro v
   induction v with
   |nil=>intro T _ h;exact h
   |cons c v ih=>intro T hT h;exact ih _ (stepR_len hok hT c) (stepR_none hok hT h c)
  have:=key (l.take (k'-a.length)) (runR (ofP x) a) (runR_len hok a) h;unfold runR at hl;rw[List.foldl_append] at hl;have h3:=ends_any (r:=ofP x) this;unfold runR at h3;rw[h3] at hl;cases hl
 intro l
 induction l with
 |nil =>
  intro a b hL hI hQ;rw[List.append_nil] at hL;subst hL
  by_cases h:anyR (runR (ofP x) a)=false
  · rw[refG_none h]
    have e:(fun k' r'=>Q k' r'∨(k'<a.length∧r'=ri∧Lng x (a.take k')))=(fun k' r'=>Q k' r'∨(k'≤a.length∧r'=ri∧Lng x (a.take k'))):=by
     funext k' r'
     refine propext ⟨fun h=>h.imp id fun⟨h1,h2⟩=>⟨by omega,h2⟩,fun hh=>hh.imp id fun⟨h1,h2,h3⟩=>⟨?_,h2,h3⟩⟩
     by_cases e:k'=a.length
     · exact absurd (by simpa using h3) (by simpa using dead [] a h k' (by omega) (by simp;omega))
     · omega
    rw[←e];exact hI
  · rw[refG,if_neg h]
    have hadd:=hI.add (k:=a.length) (r:=ri) (fun k' r' hq=>by
     rcases hq with hq|⟨h1,h2,_⟩
     · exact .inl (hQ _ _ hq)
     · exact .inr ⟨h2,h1⟩) (endsR (ofP x) (runR (ofP x) a))
    have e:(fun k' r'=>(Q k' r'∨(k'<a.length∧r'=ri∧Lng x (a.take k')))∨(k'=a.length∧r'=ri∧endsR (ofP x) (runR (ofP x) a)=true))=(fun k' r'=>Q k' r'∨(k'≤a.length∧r'=ri∧Lng x (a.take k'))):=by
     funext k' r'
     rw[ends_lng hw];refine propext ⟨?_,?_⟩
     · rintro((h1|⟨h1,h2,h3⟩)|⟨h1,h2,h3⟩)
       · exact .inl h1
       · exact .inr ⟨by omega,h2,h3⟩
       · exact .inr ⟨by omega,h2,by subst h1;simpa using h3⟩
     · rintro(h1|⟨h1,h2,h3⟩)
       · exact .inl (.inl h1)
       · by_cases hk:k'=a.length
         · exact .inr ⟨hk,h2,by subst hk;simpa using h3⟩
         · exact .inl (.inr ⟨by omega,h2,h3⟩)
    rw[e] at hadd;split<;>rename_i hc
    · rw[if_pos hc] at hadd;exact hadd
    · rw[if_neg hc] at hadd;exact hadd
 |cons c l ih =>
  intro a b hL hI hQ
  by_cases h:anyR (runR (ofP x) a)=false
  · rw[refG_none h];subst hL
    have e:(fun k' r'=>Q k' r'∨(k'<a.length∧r'=ri∧Lng x ((a++c::l).take k')))=(fun k' r'=>Q k' r'∨(k'≤(a++c::l).length∧r'=ri∧Lng x ((a++c::l).take k'))):=by
     funext k' r'
     refine propext ⟨fun h=>h.imp id fun⟨h1,h2⟩=>⟨by simp;omega,h2⟩,fun hh=>hh.imp id fun⟨h1,h2,h3⟩=>⟨?_,h2,h3⟩⟩
     by_cases e:k'<a.length
     · exact e
     · exact absurd h3 (dead (c::l) a h k' (by omega) h1)
    rw[←e];exact hI
  · rw[refG,if_neg h];have h1:=ih (a++[c]) (if endsR (ofP x) (runR (ofP x) a)=true∧(b.2.1<0∨b.1<(a.length:Int)) then ((a.length:Int),(ri:Int),if b.2.2<(a.length:Int) then (a.length:Int) else b.2.2) else (b.1,b.2.1,if b.2.2<(a.length:Int) then (a.length:Int) else b.2.2)) (by simpa using hL) ?_ hQ
    · have e:runR (ofP x) (a++[c])=stepR (ofP x) (runR (ofP x) a) c:=by simp[runR,List.foldl_append]
      rw[e] at h1;simp only[List.length_append,List.length_singleton] at h1;exact h1
    · have hadd:=hI.add (k:=a.length) (r:=ri) (fun k' r' hq=>by
       rcases hq with hq|⟨h1,h2,_⟩
       · exact .inl (hQ _ _ hq)
       · exact .inr ⟨h2,h1⟩) (endsR (ofP x) (runR (ofP x) a))
      have e:(fun k' r'=>(Q k' r'∨(k'<a.length∧r'=ri∧Lng x (L.take k')))∨(k'=a.length∧r'=ri∧endsR (ofP x) (runR (ofP x) a)=true))=(fun k' r'=>Q k' r'∨(k'<(a++[c]).length∧r'=ri∧Lng x (L.take k'))):=by
       funext k' r'
       rw[ends_lng hw];have ht:L.take a.length=a:=by rw[←hL];simp
       refine propext ⟨?_,?_⟩
       · rintro((h1|⟨h1,h2,h3⟩)|⟨h1,h2,h3⟩)
         · exact .inl h1
         · exact .inr ⟨by simp;omega,h2,h3⟩
         · exact .inr ⟨by simp;omega,h2,by subst h1;rw[ht];exact h3⟩
       · rintro(h1|⟨h1,h2,h3⟩)
         · exact .inl (.inl h1)
         · simp only[List.length_append,List.length_singleton] at h1
           by_cases hk:k'=a.length
           · exact .inr ⟨hk,h2,by subst hk;rwa [ht] at h3⟩
           · exact .inl (.inr ⟨by omega,h2,h3⟩)
      rw[e] at hadd;split<;>rename_i hc
      · rw[if_pos hc] at hadd;exact hadd
      · rw[if_neg hc] at hadd;exact hadd
theorem refGs_top (L:By):∀(xs:List Nd) (i:Nat) (Q:Nat→Nat→Prop) (b:Int×Int×Int),(∀x∈xs,wfN x=true)→(∀k r,Q k r→r<i)→IsTop Q (b.1,b.2.1) →
 IsTop (fun k r=>Q k r∨∃j x,xs[j]? =some x∧r=i+j∧k≤L.length∧Lng x (L.take k)) ((refGs i (xs.map ofP) L b).1,(refGs i (xs.map ofP) L b).2.1)
 | [],i,Q,b,_,_,h=>by
  simp only[List.map_nil,refGs];have e:(fun k r=>Q k r∨∃(j:Nat) (x:Nd),([]:List Nd)[j]? =some x∧r=i+j∧k≤L.length∧Lng x (L.take k))=Q:=by funext k r;simp
  rw[e];exact h
 |x::xs,i,Q,b,hw,hQ,h=>by
  simp only[List.map_cons,refGs];have h1:=refG_top (hw x (by simp)) i Q L L [] b rfl (by simpa using h) hQ
  have h2:=refGs_top L xs (i+1) _ (refG (ofP x) i L (startR (ofP x)) 0 b) (fun y hy=>hw y (by simp[hy])) (fun k r hq=>by
   rcases hq with hq|⟨_,hq,_⟩
   · have:=hQ _ _ hq;omega
   · omega) h1
  have e:(fun k r=>(Q k r∨(k≤L.length∧r=i∧Lng x (L.take k)))∨∃j y,xs[j]? =some y∧r=i+1+j∧k≤L.length∧Lng y (L.take k))=(fun k r=>Q k r∨∃j y,(x::xs)[j]? =some y∧r=i+j∧k≤L.length∧Lng y (L.take k)):=by
   funext k r
   refine propext ⟨?_,?_⟩
   · rintro((h1|⟨h1,h2,h3⟩)|⟨j,y,h1,h2,h3⟩)
     · exact .inl h1
     · exact .inr ⟨0,x,rfl,by omega,h1,h3⟩
     · exact .inr ⟨j+1,y,by simpa using h1,by omega,h3⟩
   · rintro(h1|⟨j,y,h1,h2,h3⟩)
     · exact .inl (.inl h1)
     · cases j with
       |zero=>simp at h1;subst h1;exact .inl (.inr ⟨h3.1,by omega,h3.2⟩)
       |succ j=>exact .inr ⟨j,y,by simpa using h1,by omega,h3⟩
  rw[e] at h2;exact h2
theorem refMatch_spec {xs:List Nd}(hw:∀x∈xs,wfN x=true) (l:By):IsMatch (fun n r=>∃x,xs[r]? =some x∧Lng x (l.take n)) l.length ((refMatch (xs.map ofP) l).1,(refMatch (xs.map ofP) l).2.1):=by
 have h:=refGs_top l xs 0 (fun _ _=>False) (0,-1,0) hw (fun _ _ h=>h.elim) (.inl ⟨rfl,fun _ _ h=>h⟩)
 rcases h with ⟨h1,h2⟩|⟨k,r,h1,h2,h3,h4⟩
 · exact .inl ⟨h1,fun k r hk ⟨x,hx,hl⟩=>h2 k r (.inr ⟨r,x,hx,by omega,hk,hl⟩)⟩
 · rcases h2 with h2|⟨j,x,hx,hr,hk,hl⟩
   · exact h2.elim
   · have:r=j:=by omega
     subst this;exact .inr ⟨k,r,h1,hk,⟨x,hx,hl⟩,fun k' r' hk' ⟨y,hy,hl'⟩=>h3 k' r' (.inr ⟨r',y,hy,by omega,hk',hl'⟩),fun r' ⟨y,hy,hl'⟩=>h4 r' (.inr ⟨r',y,hy,by omega,hk,hl'⟩)⟩
end Go.Proofs.YtfegacfjgjaghaaGreatDoor
namespace Go.Proofs.YtfegacfjgjaghaaGreatDoor
open Go Go.Lw
set_option maxRecDepth 20000
section
variable {h:Heap}{O:Nat→Prop}{vb vs vl v:Value}{a:List Bool}{rb i n:Nat}{st:RuS}{r:RuP}{rules:List By}
theorem or_calls {O':Nat→Prop}{va:Value}{b:List Bool}(ha:SlR .bool h O va a) (hb:SlR .bool h O' vb b) (hl:a.length≤b.length) (hn:a.length≤1000000) :
 CallsH Tryz.prog 107 #[va,vb] h (Ret fun r h'=>OwE Value.bool h' h.size 4 r (orB a b)∧Ext0 h h'):=by
 obtain⟨oa,na,ca,rfl,hsa⟩:=ha.open;obtain⟨ob,nb,cb,rfl,hsb⟩:=hb.open;have hna:=hsa.len;have hnb:=hsb.len;have hol:(orB a b).length=na:=by simp[orB];omega
 subst hna;refine CallsH.of Tryz.func107 rfl rfl ?_;refine xrd Tryz.func107 1 [0,1,4] rfl ?_;refine xra Tryz.func107 1 rfl ?_;refine xp rfl (OpP.lenSlice Tryz.underlying106 rfl) ?_;refine xo rfl (OpX.makeOnes Tryz.underlying106 H.el4 H.zr4 rfl rfl rfl (by omega) (by decide)) ?_;rintro _ h1 ⟨rfl,hk1,e1⟩;refine xqd 1 [0,1,4,5] rfl ?_;refine G.seq rfl ?_;refine xrd Tryz.func107 1 [0,1,4,5,6] rfl ?_;refine G.block rfl rfl ?_;refine G.loop (σ:=Nat) (fun i=>[(0,.slice oa a.length ca),(1,.slice ob nb cb),(5,.slice (some ⟨h.size,0,none⟩) a.length a.length),(6,.int .i64 (i:Nat))]) (fun i h'=>i≤a.length∧Ext0 h h'∧OwE Value.bool h' h.size 4 (.slice (some ⟨h.size,0,none⟩) a.length a.length) ((orB a b).take i++List.replicate (a.length-i) false)) (fun i=>a.length-i) (0) rfl ⟨rfl,rfl,rfl,rfl,trivial⟩ ⟨Nat.zero_le _,e1,by unfold OwE;simpa using hk1⟩ ?_;rintro i g ⟨hi,eg,ho⟩ ih;refine G.seq rfl ?_;refine xra Tryz.func107 2 rfl ?_;refine xp rfl (OpP.lenSlice Tryz.underlying106 rfl) ?_;refine xqd 1 [0,1,5,6,13] rfl ?_;refine G.ite rfl rfl (fun hlt=>?_) (fun hlt=>?_)
 · have hia:i<a.length:=by omega
   have hsa':=hsa.mv (Mv.ext0 eg);have hsb':=hsb.mv (Mv.ext0 eg);obtain⟨ba,oo,x,hoa,_,hx,hcx⟩:=hsa'.at hia;obtain⟨bb,oo2,y,hob,_,hy,hcy⟩:=hsb'.at (show i<nb by omega);obtain⟨g',c',hv',_,_,hcell,hfz,hset⟩:=ho.at (fill_get hol hia);rw[fill_len hol hi] at hv';cases hv';have horx:(orB a b)[i]? =some (x ||y):=by rw[orB,List.getElem?_zipWith,hx,hy]
   have hor:(orB a b)[i]'(by omega)=(x ||y):=(List.getElem?_eq_some_iff.1 horx).2;have hset:=hset (x ||y);have hfs:=fill_set (l:=orB a b) (z:=false) hol hia;rw[hor] at hfs;rw[hfs] at hset
   have fin:∀d,d=(x ||y)→∀g2,g2=setC g ⟨h.size,0+i*1,none⟩ (.bool d)→Ext0 h g2∧OwE Value.bool g2 h.size 4 (.slice (some ⟨h.size,0,none⟩) a.length a.length) ((orB a b).take (i+1)++List.replicate (a.length-(i+1)) false):=by
    rintro d rfl g2 rfl;exact⟨⟨by rw[setC_size];exact eg.size,fun b hb k=>by rw[(Ext.setC (M:=fun b=>b=h.size) g _ _ rfl).block b (by have:=eg.size;omega) (by omega)];exact eg.block b hb k⟩,hset⟩
   refine G.skip rfl ?_;refine G.seq rfl ?_;refine G.block rfl rfl ?_;refine G.reg Tryz.func107 rfl ?_;refine xqp 4 rfl rfl (OpP.indexSlice Tryz.underlying106 H.sz4 rfl rfl i rfl hoa (by omega)) ?_;refine xp rfl (OpP.load H.ag4 rfl hcx) ?_;refine xqm 1 rfl ?_;refine RW.split (d:=22) rfl (fun hg=>?_) (fun hg=>?_)
   · refine xqp 5 rfl rfl (OpP.indexSlice Tryz.underlying106 H.sz4 rfl rfl i rfl rfl (by omega)) ?_;refine RW.op0 rfl rfl rfl (OpX.store H.sz4 rfl rfl rfl hcell hfz) ?_;rintro _ g2 ⟨rfl,hg2⟩;refine xd [0,1,5,6,13] rfl ?_;refine G.blkEnd ?_;refine G.reg Tryz.func107 rfl ?_;refine xqp 1 rfl rfl (OpP.add64 rfl rfl ⟨by omega,by omega⟩) ?_;refine xqd 1 [0,1,5,6,13] rfl ?_;exact ih (i+1) _ _ ⟨rfl,rfl,rfl,rfl,trivial⟩ ⟨hia,fin _ (by rw[hg];rfl) g2 hg2⟩ (by omega)
   · refine xqp 2 rfl rfl (OpP.indexSlice Tryz.underlying106 H.sz4 rfl rfl i rfl hob (by omega)) ?_;refine xp rfl (OpP.load H.ag4 rfl hcy) ?_;refine xqp 1 rfl rfl (OpP.indexSlice Tryz.underlying106 H.sz4 rfl rfl i rfl rfl (by omega)) ?_;refine RW.op0 rfl rfl rfl (OpX.store H.sz4 rfl rfl rfl hcell hfz) ?_;rintro _ g2 ⟨rfl,hg2⟩;refine xd [0,1,5,6,13] rfl ?_;refine G.blkEnd ?_;refine G.reg Tryz.func107 rfl ?_;refine xqp 1 rfl rfl (OpP.add64 rfl rfl ⟨by omega,by omega⟩) ?_;refine xqd 1 [0,1,5,6,13] rfl ?_;exact ih (i+1) _ _ ⟨rfl,rfl,rfl,rfl,trivial⟩ ⟨hia,fin _ (by rw[hg];rfl) g2 hg2⟩ (by omega)
 · obtain rfl:i=a.length:=by omega
   refine G.exit rfl rfl ?_;refine xrd Tryz.func107 2 [0,1,4,5,6,13] rfl ?_;refine G.ret Tryz.func107 rfl rfl ?_;rw[List.take_of_length_le (by omega),Nat.sub_self,List.replicate_zero,List.append_nil] at ho;exact⟨_,rfl,ho,eg⟩
def CountOk (n:Nat):Prop:=∀{x:Nd}{h:Heap}{O:Nat→Prop}{w:Value},szN x≤n→szN x≤1000000→NdAt h O (ndC x.kind x.set w) x →
 CallsH Tryz.prog 105 #[.agg (ndC x.kind x.set w).toArray] h (Ret fun r h'=>r= .int .i64 (cnt x:Nat)∧Ext0 h h')
theorem count_ok:∀n,CountOk n:=by
 intro n
 induction n with
 |zero=>intro x h O w hn _ _;have:=szN_pos x;omega
 |succ n ihn =>
  intro x h O w hn hbig hx;obtain⟨w',hw',hkids⟩:=hx.open;have:w'=w:=by simp[ndC] at hw';exact hw'.symm
  subst this;obtain⟨oa,kn,kc,rfl,hsl⟩:=hkids.open;have hkl:=hsl.len;have hkm:=hsl.le;have hkc:=hsl.cap;have hszl:=szL_len x.kids;have hsx:szL x.kids+1=szN x:=by cases x;simp[szN,Nd.kids]
  have hcx:cnt x=(if x.kind=1 then 1 else 0)+cntL x.kids:=by cases x;rw[cnt];rfl
  refine CallsH.of Tryz.func105 rfl rfl ?_;refine xr Tryz.func105 rfl ?_;refine xo rfl (OpX.boxN rfl) ?_;rintro _ h1 ⟨rfl,hk1,e1,z1⟩;refine xqd 1 [0,1,2] rfl ?_;refine xrd Tryz.func105 1 [0,1,2,3] rfl ?_;refine G.seq rfl ?_;refine xr Tryz.func105 rfl ?_;refine xp rfl (OpP.fieldAddr (off:=0) Tryz.underlying153 rfl rfl H.sz3 rfl) ?_;have hk1:Blk h1 h.size 153 (ndC x.kind x.set (.slice oa kn kc)):=hk1
  have go:∀(_u:Unit) (h':Heap) (ρ':Env),Sub [(1,.pointer (some ⟨h.size,0,none⟩)),(3,.int .i64 ((if x.kind=1 then 1 else 0:Nat):Int))] ρ'→h'=h1→G Tryz.prog 105 Tryz.f105 [.code [1,1,1]] ρ' h' (Ret fun r h'=>r= .int .i64 (cnt x:Nat)∧Ext0 h h'):=by
   rintro _u h1' ρ' hsub rfl;refine G.sub (ρ':=[(1,.pointer (some ⟨h.size,0,none⟩)),(3,.int .i64 ((if x.kind=1 then 1 else 0:Nat):Int))]) hsub ?_;refine G.seq rfl ?_;refine xrd Tryz.func105 1 [1,3,4] rfl ?_;refine G.block rfl rfl ?_;refine G.loop (σ:=Nat) (fun i=>[(1,.pointer (some ⟨h.size,0,none⟩)),(3,.int .i64 (((if x.kind=1 then 1 else 0)+cntL (x.kids.take i):Nat):Int)),(4,.int .i64 (i:Nat))]) (fun i h'=>i≤kn∧Ext0 h1' h') (fun i=>kn-i) (0) rfl ⟨rfl,rfl,rfl,trivial⟩ ⟨Nat.zero_le _,Ext.refl _ _⟩ ?_;rintro i g ⟨hi,eg⟩ ih;have hkg:=hk1.ext0 eg;refine G.seq rfl ?_;refine xra Tryz.func105 1 rfl ?_;refine xp rfl (OpP.fieldAddr (off:=5) Tryz.underlying153 rfl rfl H.sz151 rfl) ?_;refine xp rfl (OpP.load H.ag151 rfl (hkg.cell (i:=5) rfl)) ?_;refine xp rfl (OpP.lenSlice Tryz.underlying151 rfl) ?_;refine xqd 1 [1,3,4,12] rfl ?_;refine G.ite rfl rfl (fun hlt=>?_) (fun hlt=>?_)
   · have hik:i<x.kids.length:=by omega
     obtain⟨y,hy⟩:∃y,x.kids[i]? =some y:=⟨_,List.getElem?_eq_getElem hik⟩
     have hsl':=hsl.mv (Mv.ext0 (e1.trans eg));obtain⟨b,o,cs,ha,hob,hrow,hnd⟩:=hsl'.get i y hy;obtain⟨w2,rfl,_⟩:=NdAt.open hnd;have hsy:=szL_mem hy;have hct:=cntL_sz (x.kids.take (i+1))
     have htk:cntL (x.kids.take (i+1))=cntL (x.kids.take i)+cnt y:=by
      rw[List.take_add_one,hy,cntL_append];simp[cntL]
     have hst:szL (x.kids.take (i+1))≤szL x.kids:=by
      have:szL (x.kids.take (i+1)++x.kids.drop (i+1))=szL x.kids:=by rw[List.take_append_drop]
      rw[szL_append] at this;omega
     have hif:(if x.kind=1 then 1 else 0:Nat)≤1:=by split<;>omega
     refine G.skip rfl ?_;refine G.seq rfl ?_;refine G.block rfl rfl ?_;refine G.reg Tryz.func105 rfl ?_;refine xqp 1 rfl rfl (OpP.fieldAddr (off:=5) Tryz.underlying153 rfl rfl H.sz151 rfl) ?_;refine xp rfl (OpP.load H.ag151 rfl (hkg.cell (i:=5) rfl)) ?_;refine xqp 1 rfl rfl (OpP.indexSlice Tryz.underlying151 H.sz153 rfl rfl i rfl ha (by omega)) ?_;refine xp rfl (OpP.loadRowN H.ag153 H.sz153 rfl hrow (by first|rfl|(simp;done)|(simp;omega))) ?_;refine xo rfl (OpX.call (vs:=[_]) Tryz.func105 rfl H.nm105 rfl (CallsH.toX (ihn (x:=y) (by omega) (by omega) hnd))) ?_;rintro _ g2 ⟨rfl,e2⟩;refine xp rfl (OpP.add64 rfl rfl ⟨by omega,by omega⟩) ?_;refine xqd 1 [1,3,4,12] rfl ?_;refine G.blkEnd ?_;refine G.reg Tryz.func105 rfl ?_;refine xqp 1 rfl rfl (OpP.add64 rfl rfl ⟨by omega,by omega⟩) ?_;refine xqd 1 [1,3,4,12] rfl ?_;exact ih (i+1) _ _ ⟨rfl,by show _=_;rw[htk,←Nat.add_assoc];push_cast;rfl,rfl,trivial⟩ ⟨by omega,eg.trans e2⟩ (by omega)
   · have:i=x.kids.length:=by omega
     subst this;refine G.exit rfl rfl ?_;refine xrd Tryz.func105 2 [1,2,3,4,12] rfl ?_;refine G.ret Tryz.func105 rfl rfl ?_;exact⟨_,rfl,by rw[List.take_length,hcx];rfl,e1.trans eg⟩
  refine xp rfl (OpP.load H.ag3 rfl (hk1.cell (i:=0) rfl)) ?_;refine xqd 1 [0,1,2,3,7] rfl ?_;refine G.ite rfl rfl (fun hk=>?_) (fun hk=>?_)
  · have hk':x.kind=1:=by omega
    refine G.reg Tryz.func105 rfl ?_;refine xqd 1 [0,1,2,3,7] rfl ?_;exact go () _ _ ⟨rfl,by rw[if_pos hk'];rfl,trivial⟩ rfl
  · have hk':¬x.kind=1:=by omega
    refine G.skip rfl ?_;exact go () _ _ ⟨rfl,by rw[if_neg hk'];rfl,trivial⟩ rfl
def RowAt (h:Heap) (O:Nat→Prop) (cs:List Value) (x:List Bool):Prop:=∃v,cs=[v]∧SlR .bool h O v x
def eRow:Elt (List Bool):=⟨1,by decide,RowAt,fun h=>by obtain⟨v,rfl,_⟩:=h;rfl,fun h=>by
 obtain⟨v,rfl,hv⟩:=h;intro u hu;simp at hu;subst hu;exact SlR.isOne hv,fun h m=>by
 obtain⟨v,hc,hv⟩:=h;exact⟨v,hc,hv.mv m⟩⟩
structure RuAt (h:Heap) (O:Nat→Prop) (rb:Nat) (vs vb vl:Value) (st:RuS):Prop where
 blk:Blk h rb 184 [vs,vb,vl]
 sets:OwR 4 encSet h 0 78 vs st.1
 rows:OwX eRow (fun b=>b=rb∨but vs.ownBlock b∨O b) h 0 106 vb st.2
 apart:∀b,vs.ownBlock=some b→vb.ownBlock≠some b
 ns:vs.ownBlock≠some rb
 nb:vb.ownBlock≠some rb
abbrev ruM (rb:Nat) (vs vb:Value):Nat→Prop:=fun b=>b=rb∨but vs.ownBlock b∨but vb.ownBlock b
theorem RuAt.ownS (k:RuAt h O rb vs vb vl st):∀b,vs.ownBlock=some b→b≠rb∧b<h.size:=fun b hb=>by
 have:=OwnH.lt k.sets hb;exact⟨fun e=>k.ns (by rw[hb,e]),this.2⟩
theorem RuAt.ownB (k:RuAt h O rb vs vb vl st):∀b,vb.ownBlock=some b→b≠rb∧b<h.size:=fun b hb=>by
 obtain⟨css,_,h2,_⟩:=k.rows;have:=h2.lt hb;exact⟨fun e=>k.nb (by rw[hb,e]),this.2⟩
theorem RuAt.ext {M:Nat→Prop}{O O':Nat→Prop}{h h':Heap}{rb:Nat}{vs vb vl:Value}{st:RuS}(k:RuAt h O rb vs vb vl st) (e:Ext M h h') (hM':∀b,ruM rb vs vb b→¬M b) (hM:∀b,b<h.size→M b→O b) (hO:∀b,b<h.size→O' b→O b):RuAt h' O' rb vs vb vl st :=
 ⟨k.blk.ext e (hM' _ (.inl rfl)),OwnH.ext e k.sets (fun _ hb=>hM' _ (.inr (.inl hb.symm))),k.rows.mv2 e (fun _ hb=>hM' _ (.inr (.inr hb.symm))) (fun b hb hm=>.inr (.inr (hM b hb hm))) (fun b hb k=>k.imp id (fun k=>k.imp id (hO b hb))),k.apart,k.ns,k.nb⟩
theorem RuAt.ext0 {O':Nat→Prop}{h':Heap}(k:RuAt h O rb vs vb vl st) (e:Ext0 h h') (hO:∀b,b<h.size→O' b→O b):RuAt h' O' rb vs vb vl st:=k.ext e (fun _ _ k=>k) (fun _ _ k=>k.elim) hO
theorem followB_at {last first:List Bool}{bh:List (List Bool)}{l:Bool}{b:List Bool}(hl:last[i]? =some l) (hb:bh[i]? =some b):(followB last first bh)[i]? =some (if l then orB b first else b):=by
 rw[followB,List.getElem?_zipWith,hl,hb]
theorem follow_calls {vlast vfirst:Value}{last first:List Bool}(hr:RuAt h O rb vs vb vl st) (hO:∀b,O b→b<h.size) (hlast:SlR .bool h (fun b=>ruM rb vs vb b) vlast last) (hfirst:SlR .bool h (fun b=>ruM rb vs vb b) vfirst first)
 (hok:RuOk n st) (hll:last.length=n) (hfl:first.length=n) (hn:n≤1000000) :
 CallsH Tryz.prog 123 #[.pointer (some ⟨rb,0,none⟩),vlast,vfirst] h (Ret fun _ h'=>RuAt h' O rb vs vb vl (st.1,followB last first st.2)∧Ext (but vb.ownBlock) h h'):=by
 obtain⟨ol,nl,cl,rfl,hsl⟩:=hlast.open;obtain⟨of,nf,cf,rfl,hsf⟩:=hfirst.open;have hnl:=hsl.len;have hnf:=hsf.len;have hrows:=hok.rows;have hfb:(followB last first st.2).length=n:=by simp[followB];omega
 have hownS:=hr.ownS;have hownB:=hr.ownB;have hrb:=hr.blk.lt;refine CallsH.of Tryz.func123 rfl rfl ?_;refine xrd Tryz.func123 1 [0,1,2,6] rfl ?_;refine G.block rfl rfl ?_;refine G.loop (σ:=Nat) (fun i=>[(0,.pointer (some ⟨rb,0,none⟩)),(1,.slice ol nl cl),(2,.slice of nf cf),(6,.int .i64 (i:Nat))]) (fun i h'=>i≤n∧RuAt h' O rb vs vb vl (st.1,(followB last first st.2).take i++st.2.drop i)∧Ext (but vb.ownBlock) h h') (fun i=>n-i) (0) rfl ⟨rfl,rfl,rfl,rfl,trivial⟩ ⟨Nat.zero_le _,hr,Ext.refl _ _⟩ ?_;rintro i g ⟨hi,hg,eg⟩ ih;have hzg:=eg.size;refine G.seq rfl ?_;refine xra Tryz.func123 2 rfl ?_;refine xp rfl (OpP.lenSlice Tryz.underlying106 rfl) ?_;refine xqd 1 [0,1,2,6,10] rfl ?_;refine G.ite rfl rfl (fun hlt=>?_) (fun hlt=>?_)
 · have hin:i<n:=by omega
   have hmv:Mv (fun b=>ruM rb vs vb b) (fun b=>ruM rb vs vb b) h g:=Mv.ofExt eg (fun b _ k=>⟨fun k2=>k (.inr (.inr k2)),k⟩);have hslg:=hsl.mv hmv;have hsfg:=hsf.mv hmv;obtain⟨bl,oo,x,hol,_,hx,hcx⟩:=hslg.at (show i<nl by omega);obtain⟨row,hrow⟩:∃row,st.2[i]? =some row:=⟨_,List.getElem?_eq_getElem (by omega)⟩
   have hrl:=hok.each row (List.mem_of_getElem? hrow);have hfa:=followB_at (first:=first) hx hrow
   have hcur:((followB last first st.2).take i++st.2.drop i)[i]? =some row:=by
    have h1:((followB last first st.2).take i).length=i:=by rw[List.length_take];omega
    rw[List.getElem?_append_right (by omega),h1,Nat.sub_self,List.getElem?_drop];exact hrow
   have hlen:((followB last first st.2).take i++st.2.drop i).length=n:=by rw[List.length_append,List.length_take,List.length_drop];omega
   have hnext:∀z,(followB last first st.2)[i]? =some z→((followB last first st.2).take i++st.2.drop i).set i z=(followB last first st.2).take (i+1)++st.2.drop (i+1):=by
    intro z hz;obtain⟨hil,hz⟩:=List.getElem?_eq_some_iff.1 hz;have hd:st.2.drop i=st.2[i]::st.2.drop (i+1):=List.drop_eq_getElem_cons (by omega);rw[List.set_append_right _ _ (by rw[List.length_take];omega),hd];have h1:((followB last first st.2).take i).length=i:=by rw[List.length_take];omega
    rw[h1,Nat.sub_self,List.set_cons_zero,List.take_succ_eq_append_getElem hil,hz,List.append_assoc];rfl
   refine G.skip rfl ?_;refine G.seq rfl ?_;refine G.block rfl rfl ?_;refine xra Tryz.func123 2 rfl ?_;refine xp rfl (OpP.indexSlice Tryz.underlying106 H.sz4 rfl rfl i rfl hol (by omega)) ?_;refine xp rfl (OpP.load H.ag4 rfl hcx) ?_;refine xd [0,1,2,6,10,16] rfl ?_;refine G.cond rfl rfl (fun hb=>?_) (fun hb=>?_)
   · subst hb;have hz:=hnext _ hfa;rw[if_pos rfl] at hz;obtain⟨gb,c,cs,hvb,hgb1,hgb2,hra,hfz,⟨w,rfl,hw⟩,hput⟩:=hg.rows.put hcur;rw[hlen] at hvb;subst hvb;have hbb:@but (some gb) gb:=rfl;refine G.draw (fun b=>Array.size g≤b) (fun i=>Nat.blt i 15) (sz:=16) (listed:= #[false,false,false,false,false,false,false,false,false,false,false,false,false,false,false,false]) Tryz.func123 H.mixed rfl rfl rfl ?_;refine xtq 0 1 (by kernel_rfl) rfl ?_;refine xtq 1 3 (by kernel_rfl) rfl ?_;refine xtp 2 7 (by kernel_rfl) rfl (fun h' e=>OpP.fieldAddr (off:=1) Tryz.underlying184 rfl rfl H.sz182 rfl) ?_;refine xtp 3 15 (by kernel_rfl) rfl (fun h' e=>OpP.load H.ag182 rfl (e.old (hg.blk.cell (i:=1) rfl))) ?_;refine xtq 4 31 (by kernel_rfl) rfl ?_;refine xtq 5 63 (by kernel_rfl) rfl ?_;refine xtq 6 127 (by kernel_rfl) rfl ?_;refine xtp 7 255 (by kernel_rfl) rfl (fun h' e=>OpP.fieldAddr (off:=1) Tryz.underlying184 rfl rfl H.sz182 rfl) ?_;refine xtp 8 511 (by kernel_rfl) rfl (fun h' e=>OpP.load H.ag182 rfl (e.old (hg.blk.cell (i:=1) rfl))) ?_;refine xtq 9 1023 (by kernel_rfl) rfl ?_;refine xtp 10 2047 (by kernel_rfl) rfl (fun h' e=>OpP.indexSlice Tryz.underlying182 H.sz106 rfl rfl i rfl rfl (by omega)) ?_;refine xtp 11 4095 (by kernel_rfl) rfl (fun h' e=>OpP.load H.ag106 rfl (e.old (hra 0 _ rfl))) ?_;refine xtq 12 8191 (by kernel_rfl) rfl ?_;refine xto 13 16383 (by kernel_rfl) rfl (OpX.call (vs:=[_,_]) Tryz.func107 rfl H.nm107 rfl (CallsH.toX (or_calls hw hsfg.shut (by omega) (by omega)))) ?_;rintro w1 g1 ⟨ho1,e1⟩;refine⟨fun _=>e1.mono (fun _ _ k=>k.elim),?_⟩;have hg1:RuAt g1 O rb vs (.slice (some ⟨gb,0,none⟩) n c) vl (st.1,(followB last first st.2).take i++st.2.drop i):=hg.ext0 e1 (fun _ _ k=>k);have hz1:=e1.size;obtain⟨gb',c',cs1,hvb1,_,_,hra1,hfz1,⟨w2,rfl,hw2⟩,hput1⟩:=hg1.rows.put hcur;rw[hlen] at hvb1;cases hvb1;obtain⟨wa,wc,rfl,_⟩:=(show OwnH g1 g.size 4 1 w1 (orB row first).length ((orB row first).map Value.bool) from ho1).open
     have hnew:=hput1 0 (.slice wa (orB row first).length wc) (orB row first) (by decide) ⟨_,rfl,OwE.read (h1:=fun _=>rfl) ho1 (fun b hb k=>by
      rcases k with k|k|k|k
      · have:=hownB b k.symm;omega
      · omega
      · have:=hownS b k.symm;omega
      · have:=hO b k;omega)⟩
     rw[hz] at hnew;refine xtp 14 32767 (by kernel_rfl) rfl (fun h' e=>OpP.indexSlice Tryz.underlying182 H.sz106 rfl rfl i rfl rfl (by omega)) ?_;refine xt0 15 65535 (by kernel_rfl) rfl (OpX.store H.sz106 rfl rfl rfl (hra1 0 _ rfl) (hfz1 _)) ?_;rintro _ g2 ⟨rfl,hg2⟩;refine⟨fun hk=>(nomatch hk),?_⟩;have x2:Ext (fun b=>b=gb) g1 g2:=by rw[hg2];exact Ext.setC _ _ _ rfl
     have e02:Ext (but (Value.slice (some ⟨gb,0,none⟩) n c).ownBlock) h g2:=⟨by have:=x2.size;omega,fun b hb k=>by
      rw[x2.block b (by omega) (fun e=>k (by subst e;rfl)),e1.block b (by omega) (fun k=>k)];exact eg.block b hb k⟩
     have hgs:vs.ownBlock≠some gb:=fun e=>hr.apart gb e rfl
     have hg3:RuAt g2 O rb vs (.slice (some ⟨gb,0,none⟩) n c) vl (st.1,(followB last first st.2).take (i+1)++st.2.drop (i+1)) :=
      ⟨hg1.blk.ext x2 (by show ¬_=_;have:=(hownB gb rfl).1;omega),OwnH.ext x2 hg1.sets (fun b hb e=>hgs (by subst e;exact hb)),by rw[hg2];exact hnew,hr.apart,hr.ns,hr.nb⟩
     refine RD.done (by kernel_rfl) ?_;refine xu [0,1,2,6,10,16] rfl ?_;refine G.blkEnd ?_;refine G.reg Tryz.func123 rfl ?_;refine xqp 1 rfl rfl (OpP.add64 rfl rfl ⟨by omega,by omega⟩) ?_;refine xqd 1 [0,1,2,6,10,16] rfl ?_;exact ih (i+1) _ _ ⟨rfl,rfl,rfl,rfl,trivial⟩ ⟨hin,hg3,e02⟩ (by omega)
   · subst hb;have hz:=hnext _ hfa;rw[if_neg (by decide)] at hz
     have hset:((followB last first st.2).take i++st.2.drop i).set i row=(followB last first st.2).take i++st.2.drop i:=by
      obtain⟨hi',hrow'⟩:=List.getElem?_eq_some_iff.1 hcur;rw[←hrow',List.set_getElem_self]
     rw[hset] at hz;rw[hz] at hg;refine G.skip rfl ?_;refine G.blkEnd ?_;refine G.reg Tryz.func123 rfl ?_;refine xqp 1 rfl rfl (OpP.add64 rfl rfl ⟨by omega,by omega⟩) ?_;refine xqd 1 [0,1,2,6,10,16] rfl ?_;exact ih (i+1) _ _ ⟨rfl,rfl,rfl,rfl,trivial⟩ ⟨hin,hg,eg⟩ (by omega)
 · obtain rfl:i=n:=by omega
   rw[List.take_of_length_le (by omega),List.drop_of_length_le (by omega),List.append_nil] at hg;refine G.exit rfl rfl ?_;refine G.fall Tryz.func123 rfl ?_;exact⟨_,rfl,hg,eg⟩
def ruO (O L:Nat→Prop):Nat→Prop:=fun b=>O b∨L b
structure RuL (O:Nat→Prop) (rb:Nat) (vs vb vl:Value) (h:Heap) (L:Nat→Prop) (hi:Nat) (g:Heap) (vs':Value) (st':RuS):Prop where
 at_:RuAt g (ruO O L) rb vs' vb vl st'
 ext:Ext (ruM rb vs vb) h g
 own:∀b,vs'.ownBlock=some b→vs.ownBlock=some b∨hi≤b
 size:hi≤g.size
 base:h.size≤hi
 lt:∀b,ruM rb vs vb b→b<h.size
 o:∀b,O b→b<h.size
 l:∀b,L b→h.size≤b∧b<hi
abbrev ruQ (O:Nat→Prop) (rb:Nat) (vs' vb:Value) (L:Nat→Prop):Nat→Prop:=fun b=>ruM rb vs' vb b∨ruO O L b
section
variable {O L:Nat→Prop}{rb:Nat}{vs vb vl vs' vs2:Value}{h g g2:Heap}{hi:Nat}{st' st2:RuS}
theorem RuL.loc (k:RuL O rb vs vb vl h L hi g vs' st'):∀b,L b→¬ruM rb vs' vb b:=by
 intro b hb;obtain⟨h1,h2⟩:=k.l b hb;rintro(k1|k1|k1)
 · have:=k.lt rb (.inl rfl);omega
 · rcases k.own b k1.symm with k2|k2
   · have:=k.lt b (.inr (.inl k2.symm));omega
   · omega
 · have:=k.lt b (.inr (.inr k1));omega
theorem RuL.qlt (k:RuL O rb vs vb vl h L hi g vs' st'):∀b,ruQ O rb vs' vb L b→b<g.size:=by
 have hs:=k.size;have hb:=k.base;rintro b ((k1|k1|k1)|k1|k1)
 · have:=k.lt rb (.inl rfl);omega
 · exact(k.at_.ownS b k1.symm).2
 · exact(k.at_.ownB b k1.symm).2
 · have:=k.o b k1;omega
 · have:=k.l b k1;omega
theorem RuL.old (k:RuL O rb vs vb vl h L hi g vs' st'):Mv (ruM rb vs vb) (ruM rb vs' vb) h g :=
 ⟨k.ext.size,fun b hb hn=>⟨k.ext.block b hb hn,by
  have hbs:=k.base;rintro(k1|k1|k1)
  · exact hn (.inl k1)
  · rcases k.own b k1.symm with k2|k2
    · exact hn (.inr (.inl k2.symm))
    · omega
  · exact hn (.inr (.inr k1))⟩⟩
theorem RuL.ext0 (k:RuL O rb vs vb vl h L hi g vs' st') (e:Ext0 g g2):RuL O rb vs vb vl h L hi g2 vs' st' :=
 ⟨k.at_.ext0 e (fun _ _ k=>k),⟨Nat.le_trans k.ext.size e.size,fun b hb hn=>(e.block b (Nat.lt_of_lt_of_le hb k.ext.size) (fun k=>k)).trans (k.ext.block b hb hn)⟩,k.own,Nat.le_trans k.size e.size,k.base,k.lt,k.o,k.l⟩
theorem RuL.put (k:RuL O rb vs vb vl h L hi g vs' st'){x:Nat}(e:Ext (fun b=>b=x) g g2) (hx:L x):RuL O rb vs vb vl h L hi g2 vs' st' :=
 ⟨k.at_.ext e (fun b hb hx'=>by subst hx';exact k.loc b hx hb) (fun b _ hx'=>by subst hx';exact .inr hx) (fun _ _ k=>k),
  ⟨Nat.le_trans k.ext.size e.size,fun b hb hn=>(e.block b (Nat.lt_of_lt_of_le hb k.ext.size) (by have:=k.l x hx;omega)).trans (k.ext.block b hb hn)⟩,k.own,Nat.le_trans k.size e.size,k.base,k.lt,k.o,k.l⟩
theorem RuL.putQ (_:RuL O rb vs vb vl h L hi g vs' st'){x:Nat}(e:Ext (fun b=>b=x) g g2) (hx:L x):Mv (ruQ O rb vs' vb L) (ruQ O rb vs' vb L) g g2 :=
 Mv.ofExt e fun b _ hq=>⟨fun hx'=>hq (.inr (.inr (by subst hx';exact hx))),hq⟩
theorem RuL.sub (k:RuL O rb vs vb vl h L hi g vs' st') (a:RuAt g2 (ruO O L) rb vs2 vb vl st2) (e:Ext (ruM rb vs' vb) g g2) (ho:∀b,vs2.ownBlock=some b→vs'.ownBlock=some b∨g.size≤b):RuL O rb vs vb vl h L hi g2 vs2 st2 :=
 ⟨a,⟨Nat.le_trans k.ext.size e.size,fun b hb hn=>(e.block b (Nat.lt_of_lt_of_le hb k.ext.size) (k.old.block b hb hn).2).trans (k.ext.block b hb hn)⟩,
  fun b hb=>by
   have hs:=k.size
   rcases ho b hb with k1|k1
   · exact k.own b k1
   · exact .inr (by omega),Nat.le_trans k.size e.size,k.base,k.lt,k.o,k.l⟩
theorem RuL.subQ (_:RuL O rb vs vb vl h L hi g vs' st') (e:Ext (ruM rb vs' vb) g g2) (ho:∀b,vs2.ownBlock=some b→vs'.ownBlock=some b∨g.size≤b):Mv (ruQ O rb vs' vb L) (ruQ O rb vs2 vb L) g g2 :=
 ⟨e.size,fun b hb hn=>⟨e.block b hb (fun k=>hn (.inl k)),by
  rintro((k1|k1|k1)|k1)
  · exact hn (.inl (.inl k1))
  · rcases ho b k1.symm with k2|k2
    · exact hn (.inl (.inr (.inl k2.symm)))
    · omega
  · exact hn (.inl (.inr (.inr k1)))
  · exact hn (.inr k1)⟩⟩
theorem RuL.fol (k:RuL O rb vs vb vl h L hi g vs' st') (a:RuAt g2 (ruO O L) rb vs' vb vl st2) (e:Ext (but vb.ownBlock) g g2):RuL O rb vs vb vl h L hi g2 vs' st2 :=
 k.sub a (e.mono fun _ _ k=>.inr (.inr k)) (fun _ k=>.inl k)
theorem RuL.folQ (k:RuL O rb vs vb vl h L hi g vs' st') (e:Ext (but vb.ownBlock) g g2):Mv (ruQ O rb vs' vb L) (ruQ O rb vs' vb L) g g2:=k.subQ (e.mono fun _ _ k=>.inr (.inr k)) (fun _ k=>.inl k)
structure LocB (b4 b6:Nat) (nd:List Value) (g:Heap):Prop where
 k4:Blk g b4 153 nd
 k6:Blk g b6 186 [.bool false,.slice none 0 0,.slice none 0 0]
theorem LocB.ext0 {g g2:Heap}{b4 b6:Nat}{nd:List Value}(k:LocB b4 b6 nd g) (e:Ext0 g g2):LocB b4 b6 nd g2:=⟨k.k4.ext0 e,k.k6.ext0 e⟩
theorem LocB.ext {M:Nat→Prop}{g g2:Heap}{b4 b6:Nat}{nd:List Value}(k:LocB b4 b6 nd g) (e:Ext M g g2) (h4:¬M b4) (h6:¬M b6):LocB b4 b6 nd g2:=⟨k.k4.ext e h4,k.k6.ext e h6⟩
def LayRV (O:Nat→Prop) (rb:Nat) (h:Heap) (vs vb vl:Value) (out:PartP×RuS) (r:Value) (h':Heap):Prop :=
 ∃vs' f l,r= .agg #[.bool out.1.null,f,l]∧RuAt h' O rb vs' vb vl out.2∧SlR .bool h' (fun b=>ruM rb vs' vb b∨O b) f out.1.first∧SlR .bool h' (fun b=>ruM rb vs' vb b∨O b) l out.1.last∧Ext (ruM rb vs vb) h h'∧(∀b,vs'.ownBlock=some b→vs.ownBlock=some b∨h.size≤b)
theorem RuL.fin (k:RuL O rb vs vb vl h L hi g vs' st'){p:PartP}{f l:Value}(hf:SlR .bool g (ruQ O rb vs' vb L) f p.first) (hl:SlR .bool g (ruQ O rb vs' vb L) l p.last):LayRV O rb h vs vb vl (p,st') (.agg #[.bool p.null,f,l]) g :=
 ⟨vs',f,l,rfl,k.at_.ext0 (Ext.refl _ _) (fun _ _ k=>.inl k),SlR.less hf (fun _ k=>k.imp id .inl),SlR.less hl (fun _ k=>k.imp id .inl),k.ext,fun b hb=>(k.own b hb).imp id (fun k1=>Nat.le_trans k.base k1)⟩
end
def LayROk (m:Nat):Prop:=∀{x:Nd}{h:Heap}{O:Nat→Prop}{rb:Nat}{vs vb vl w:Value}{st:RuS}{n:Nat},szN x≤m→RuAt h O rb vs vb vl st→(∀b,O b→b<h.size)→NdAt h (ruM rb vs vb) (ndC x.kind x.set w) x→wfN x=true→RuOk n st→st.1.length+cnt x≤n→n≤1000000 →
 CallsH Tryz.prog 106 #[.pointer (some ⟨rb,0,none⟩),.agg (ndC x.kind x.set w).toArray,.int .i64 (n:Nat)] h (Ret (LayRV O rb h vs vb vl (glu n x st)))
theorem kkR {k j:Nat}(h:¬((k:Nat):Int)=(j:Nat)):¬k=j:=fun e=>h (by rw[e])
theorem layR_kind {m:Nat}(ih:LayROk m):LayROk (m+1):=by
 intro x h O rb vs vb vl w st n hsz hr hO hx hw hok hroom hn;obtain⟨k,s,kids⟩:=x;simp only[szN] at hsz;simp only[cnt] at hroom;have hrb:=hr.blk.lt
 have hltM:∀b,ruM rb vs vb b→b<h.size:=by
  rintro b (k1|k1|k1)
  · omega
  · exact(hr.ownS b k1.symm).2
  · exact(hr.ownB b k1.symm).2
 obtain⟨w',hw',hkids⟩:=hx.open;have hww:w=w':=by simpa [ndC] using hw'
 subst hww
 show CallsH _ _ #[_,.agg (ndC k s w).toArray,_] h _
 replace hkids:SlR eNd h (ruM rb vs vb) w kids:=hkids;obtain⟨oa,kn,kc,rfl,hsl⟩:=hkids.open;have hkn:kids.length=kn:=hsl.len;have hkm:=hsl.le;have hkc:=hsl.cap;have hkc2:=hkc;simp only[maxLen] at hkc2;have hwl:wfL kids=true:=by simp only[wfN,Bool.and_eq_true] at hw;exact hw.2
 have hklen:=szL_len kids;have hokAll:=glu_ok n (.mk k s kids) st hok;refine CallsH.of Tryz.func106 rfl rfl ?_;refine xr Tryz.func106 rfl ?_;refine xo rfl (OpX.boxN rfl) ?_;rintro _ h1 ⟨rfl,q4,e1,z1⟩;refine xo rfl (OpX.allocN H.zr186) ?_;rintro _ h2 ⟨rfl,q6,e2,z2⟩;refine xd [0,1,2,4,6] rfl ?_;refine xra Tryz.func106 1 rfl ?_;refine xo rfl (OpX.makeOnes Tryz.underlying106 H.el4 H.zr4 rfl rfl rfl (by omega) (by decide)) ?_;rintro _ h3 ⟨rfl,q7,e3⟩;have q4:Blk h1 h.size 153 (ndC k s (.slice oa kn kc)):=q4;have q6:Blk h2 h1.size 186 [.bool false,.slice none 0 0,.slice none 0 0]:=q6;have z3:=e3.size;have q4:=(q4.ext0 e2).ext0 e3;have q6:=q6.ext0 e3;have e03:Ext0 h h3:=(e1.trans e2).trans e3;have q7:OwE Value.bool h3 h2.size 4 (.slice (some ⟨h2.size,0,none⟩) n n) (nob n):=by unfold OwE nob;simpa using q7
 have hs4:Array.size h+1=Array.size h1:=by omega
 have hs6:Array.size h1+1=Array.size h2:=by omega
 have hs7:Array.size h2<Array.size h3:=(OwnH.lt q7 rfl).2
 -- from h3 on
 generalize hLe:(fun b=>b=Array.size h∨b=Array.size h1:Nat→Prop)=L2;have hLn:L2 h.size:=by rw[←hLe];exact .inl rfl
 have hLp:L2 h1.size:=by rw[←hLe];exact .inr rfl
 have hL2:∀b,L2 b→h.size≤b∧b<h3.size:=by rw[←hLe];rintro b (k|k)<;>omega
 have R3:RuL O rb vs vb vl h L2 h3.size h3 vs st:=⟨hr.ext (O':=ruO O L2) e03 (fun _ _ k=>k) (fun _ _ k=>k.elim) (fun b hb k=>k.elim id (fun k=>by have:=hL2 b k;omega)),e03.mono (fun _ _ k=>k.elim),fun b hb=>.inl hb,Nat.le_refl _,e03.size,hltM,hO,hL2⟩
 have hnob:PartOk n ⟨true,nob n,nob n⟩:=nob_ok n true;refine xqd 1 [0,1,2,4,6,7] rfl ?_;refine G.seq rfl ?_;refine xr Tryz.func106 rfl ?_;refine xp rfl (OpP.fieldAddr (off:=0) Tryz.underlying153 rfl rfl H.sz3 rfl) ?_;refine xp rfl (OpP.load H.ag3 rfl (q4.cell (i:=0) rfl)) ?_;refine xd [0,1,2,4,6,7,20] rfl ?_;refine G.block rfl rfl ?_;refine xrd Tryz.func106 2 [0,1,2,4,6,7,20,21] rfl ?_;refine G.ite rfl rfl (fun h1k=>?_) (fun h1k=>?_)
 · obtain rfl:k=1:=by omega
   have hglu:glu n (.mk 1 s kids) st=(⟨false,(nob n).set st.1.length true,(nob n).set st.1.length true⟩,(st.1++[s],st.2)):=by rw[glu];simp
   rw[hglu];simp only[if_true] at hroom;have hownS:=R3.at_.ownS;have hownB:=hr.ownB;have hrM:¬(but vs.ownBlock rb∨Array.size h3≤rb):=by rintro(k|k);(have:=hownS rb k.symm;omega);omega
   have hnM:¬(but vs.ownBlock h.size∨Array.size h3≤h.size):=by rintro(k|k);(have:=(hr.ownS _ k.symm);omega);omega
   have hsets:OwnH h3 0 78 4 vs st.1.length (st.1.flatMap encSet):=R3.at_.sets;have hset1:∀u∈encSet s,u.oneCell'=true:=by intro u hu;simp[encSet] at hu;rcases hu with rfl|rfl|rfl|rfl<;>rfl
   have hset4:Lw.rowAt h3 h.size 1 (encSet s):=q4.part 1 (by intro j v hv;match j with| 0=>exact hv| 1=>exact hv| 2=>exact hv| 3=>exact hv|j+4=>simp[encSet] at hv);refine G.seq rfl ?_;refine G.draw (fun b=>but vs.ownBlock b∨Array.size h3≤b) (fun i=>Nat.blt i 11) (sz:=12) (listed:= #[false,false,false,false,false,false,false,false,false,false,false,false]) Tryz.func106 H.mixed rfl rfl rfl ?_;refine xtq 0 1 (by kernel_rfl) rfl ?_;refine xtq 1 3 (by kernel_rfl) rfl ?_;refine xtq 2 7 (by kernel_rfl) rfl ?_;refine xtp 3 15 (by kernel_rfl) rfl (fun h' e=>OpP.fieldAddr (off:=0) Tryz.underlying184 rfl rfl H.sz181 rfl) ?_;refine xtp 4 31 (by kernel_rfl) rfl (fun h' e=>OpP.load H.ag181 rfl (e.cell hrM (R3.at_.blk.cell (i:=0) rfl))) ?_;refine xtp 5 63 (by kernel_rfl) rfl (fun h' e=>OpP.fieldAddr (off:=1) Tryz.underlying153 rfl rfl H.sz78 rfl) ?_;refine xtp 6 127 (by kernel_rfl) rfl (fun h' e=>OpP.loadRowN H.ag78 H.sz78 rfl (e.rowAt hnM hset4) (by first|rfl|(simp;done)|(simp;omega))) ?_;refine xto 7 255 (by kernel_rfl) rfl (OpX.buildRec (cs:=[_,_,_,_]) Tryz.underlying181 H.el78 rfl rfl (by decide)) ?_;rintro _ _ ⟨rfl,rfl⟩;refine⟨fun _=>by first|exact Ext.push _ _ _|assumption,?_⟩;refine xto 8 511 (by kernel_rfl) rfl (OpX.appendNew Tryz.underlying181 H.el78 rfl rfl (hsets) rfl rfl (hset1) (by omega) (by decide) (by omega)) ?_;rintro v2 h5 ⟨ho5,hx5,hx5',hv5⟩;refine⟨fun _=>hx5'.mono (fun _ _ k=>.inl k),?_⟩;have z5:=hx5.size;obtain⟨va2,c2,rfl,_⟩:=ho5.open;have hrb5:rb<h5.size:=by omega
   refine xto 9 1023 (by kernel_rfl) rfl (OpP.toX (OpP.nilCheck rfl)) ?_;rintro _ hq_ ⟨rfl,hqe_⟩;replace hqe_:=hqe_.symm;subst hqe_;refine⟨fun _=>Ext.refl _ _,?_⟩;refine xtp 10 2047 (by kernel_rfl) rfl (fun h' e=>OpP.fieldAddr (off:=0) Tryz.underlying184 rfl rfl H.sz181 rfl) ?_;refine xt0 11 4095 (by kernel_rfl) rfl (OpX.storeOne H.sz181 rfl rfl (R3.at_.blk.ext hx5 (fun k=>by have:=hownS rb k.symm;omega)) (by first|decide|exact of_decide_eq_true rfl|(simp;done)|(simp;omega)) rfl) ?_;rintro _ h6 ⟨rfl,hk6,hx6,hz6⟩;refine⟨fun hk=>(nomatch hk),?_⟩;have hk6:Blk h6 rb 184 [.slice va2 (st.1.length+1) c2,vb,vl]:=hk6
   have hv2:∀b,(Value.slice va2 (st.1.length+1) c2).ownBlock=some b→b≠rb:=fun b hb=>by
    rcases hv5 b hb with k|k
    · exact(hownS b k).1
    · omega
   have a6:RuAt h6 (ruO O L2) rb (.slice va2 (st.1.length+1) c2) vb vl (st.1++[s],st.2):=⟨hk6,OwR.of (OwnH.ext hx6 ho5 (fun b hb (e:b=rb)=>by have:=hv2 b hb;omega)) rfl rfl,
    (R3.at_.rows.mv2 hx5 (fun b hb k=>hr.apart b k.symm hb) (fun b _ k=>.inr (.inl k)) (O':=fun b=>b=rb∨but (Value.slice va2 (st.1.length+1) c2).ownBlock b∨ruO O L2 b) (fun b hb k=>by
     rcases k with k|k|k
     · exact .inl k
     · rcases hv5 b k.symm with k2|k2
       · exact .inr (.inl k2.symm)
       · omega
     · exact .inr (.inr k))).mv2 hx6 (fun b hb (e:b=rb)=>by have:=hownB b hb;omega) (fun b _ k=>.inl k) (fun b _ k=>k),fun b hb=>by
     rcases hv5 b hb with k|k
     · exact hr.apart b k
     · intro e;have:=hownB b e;omega,fun hb=>(hv2 rb hb) rfl,hr.nb⟩
   have e36:Ext (ruM rb vs vb) h3 h6:=⟨by omega,fun b hb hn=>by rw[hx6.block b (by omega) (fun k=>hn (.inl k)),hx5.block b hb (fun k=>hn (.inr (.inl k)))]⟩
   have R6:=R3.sub a6 e36 hv5;have q4:=q4.ext e36 (R3.loc _ hLn);have q6:=q6.ext e36 (R3.loc _ hLp);refine RD.done (by kernel_rfl) ?_;refine xu [0,1,2,4,6,7,20,21] rfl ?_;refine xra Tryz.func106 1 rfl ?_;refine xo rfl (OpX.makeOnes Tryz.underlying106 H.el4 H.zr4 rfl rfl rfl (by omega) (by decide)) ?_;rintro _ h7 ⟨rfl,q8,e7⟩;have q8:OwE Value.bool h7 h6.size 4 (.slice (some ⟨h6.size,0,none⟩) n n) (nob n):=by unfold OwE nob;simpa using q8
   have R7:=R6.ext0 e7;obtain⟨g',c',hv',_,_,hcell,hfz,hset⟩:=q8.at (i:=st.1.length) (x:=false) (by unfold nob;rw[List.getElem?_replicate,if_pos (by omega)]);rw[nob_len] at hv';cases hv';have hset:=hset true;refine xqd 1 [0,1,2,4,6,7,8,20,21] rfl ?_;refine xra Tryz.func106 3 rfl ?_;refine xp rfl (OpP.fieldAddr (off:=0) Tryz.underlying184 rfl rfl H.sz181 rfl) ?_;refine xp rfl (OpP.load H.ag181 rfl (R7.at_.blk.cell (i:=0) rfl)) ?_;refine xp rfl (OpP.lenSlice Tryz.underlying181 rfl) ?_;refine xp rfl (OpP.sub64 rfl rfl ⟨by omega,by omega⟩) ?_;refine xp rfl (OpP.indexSlice Tryz.underlying106 H.sz4 rfl rfl st.1.length (by omega) rfl (by omega)) ?_;refine RW.op0 rfl rfl rfl (OpX.store H.sz4 rfl rfl rfl hcell hfz) ?_;rintro _ h8 ⟨rfl,hg8⟩;rw[←hg8] at hset;have e68:Ext0 h6 h8:=Ext0.only e7 (by rw[hg8];exact Ext.setC _ _ _ rfl:Ext (fun b=>b=h6.size) h7 h8) (Nat.le_refl _);have R8:=R6.ext0 e68;have hone:SlR .bool h8 (ruQ O rb (.slice va2 (st.1.length+1) c2) vb L2) (.slice (some ⟨h6.size,0,none⟩) n n) ((nob n).set st.1.length true):=OwE.read (h1:=fun _=>rfl) hset (fun b hb k=>by have:=R6.qlt b k;omega);refine xd [0,1,2,4,6,7,8,20,21] rfl ?_;refine xra Tryz.func106 2 rfl ?_;refine xp rfl (OpP.build (H.bd186_0_1_2 _ _ _ _ _ _ _) rfl) ?_;refine RW.op0 rfl rfl rfl (OpX.storeBlk H.sz186 rfl rfl (q6.ext0 e68) (by first|rfl|(simp;done)|(simp;omega)) (by first|decide|exact of_decide_eq_true rfl|(simp;done)|(simp;omega)) (by first|decide|simp[Value.oneCell'])) ?_;rintro _ h9 ⟨rfl,hk9,hx9,hz9⟩;refine xd [0,1,2,4,6,7,8,20,21] rfl ?_;have hk9:Blk h9 h1.size 186 [.bool false,.slice (some ⟨h6.size,0,none⟩) n n,.slice (some ⟨h6.size,0,none⟩) n n]:=hk9;refine G.retC Tryz.func106 rfl (.cons (ResOk.rowN H.ag186 H.sz186 rfl (hk9.row) (by first|rfl|(simp;done)|(simp;omega))) (.nil)) ?_;have R9:=R8.put hx9 hLp;have hone9:=hone.mv (R8.putQ hx9 hLp);exact⟨_,rfl,R9.fin hone9 hone9⟩
 · have h1k':¬k=1:=kkR h1k;refine xrd Tryz.func106 2 [0,1,2,4,6,7,20,21,47] rfl ?_;refine G.ite rfl rfl (fun h2k=>?_) (fun h2k=>?_)
   · obtain rfl:k=2:=by omega
     have hglu:glu n (.mk 2 s kids) st=gluCat n kids ⟨true,nob n,nob n⟩ st:=by rw[glu];simp
     rw[hglu];generalize htgt:gluCat n kids ⟨true,nob n,nob n⟩ st=tgt;rw[if_neg (by decide),Nat.zero_add] at hroom;refine xra Tryz.func106 2 rfl ?_;refine xp rfl (OpP.build (H.bd186_0_1_2 _ _ _ _ _ _ _) rfl) ?_;refine xo rfl (OpX.allocN H.zr186) ?_;rintro _ h4 ⟨rfl,k9,e4,z4⟩;refine RW.op0 rfl rfl rfl (OpX.storeBlk H.sz186 rfl rfl k9 (by first|rfl|(simp;done)|(simp;omega)) (by first|decide|exact of_decide_eq_true rfl|(simp;done)|(simp;omega)) (by first|decide|simp[Value.oneCell'])) ?_;rintro _ h5 ⟨rfl,k9,x5,z5⟩;have k9:Blk h5 h3.size 186 [.bool true,.slice (some ⟨h2.size,0,none⟩) n n,.slice (some ⟨h2.size,0,none⟩) n n]:=k9;have e35:Ext0 h3 h5:=Ext0.only e4 x5 (Nat.le_refl _);have e05:=e03.trans e35;generalize hL5e:(fun b=>L2 b∨b=Array.size h3:Nat→Prop)=L5;have hL5:∀b,L5 b→h.size≤b∧b<h5.size:=by rw[←hL5e];rintro b (k|k);(have:=hL2 b k;omega);omega
     have hL4':L5 h.size:=by rw[←hL5e];exact .inl hLn
     have hL6':L5 h1.size:=by rw[←hL5e];exact .inl hLp
     have hL9':L5 h3.size:=by rw[←hL5e];exact .inr rfl
     have R5:RuL O rb vs vb vl h L5 h5.size h5 vs st:=⟨hr.ext (O':=ruO O L5) e05 (fun _ _ k=>k) (fun _ _ k=>k.elim) (fun b hb k=>k.elim id (fun k=>by have:=hL5 b k;omega)),e05.mono (fun _ _ k=>k.elim),fun b hb=>.inl hb,Nat.le_refl _,by omega,hltM,hO,hL5⟩
     have hnb3:SlR .bool h3 (ruQ O rb vs vb L2) (.slice (some ⟨h2.size,0,none⟩) n n) (nob n):=OwE.read (h1:=fun _=>rfl) q7 (fun b hb k=>by
      rcases k with k|k|k
      · have:=hltM b k;omega
      · have:=hO b k;omega
      · rw[←hLe] at k;rcases k with k|k<;>omega)
     have hnb5:SlR .bool h5 (ruQ O rb vs vb L5) (.slice (some ⟨h2.size,0,none⟩) n n) (nob n):=hnb3.mv ⟨e35.size,fun b hb hn=>⟨e35.block b hb (fun k=>k),by
      rintro(k|k|k)
      · exact hn (.inl k)
      · exact hn (.inr (.inl k))
      · rw[←hL5e] at k
        rcases k with k|k
        · exact hn (.inr (.inr k))
        · omega⟩⟩
     have LB5:LocB h.size h1.size (ndC 2 s (.slice oa kn kc)) h5:=⟨q4.ext0 e35,q6.ext0 e35⟩
     refine xd [0,1,2,4,6,7,9,20,21,47] rfl ?_;refine G.seq rfl ?_;refine xrd Tryz.func106 1 [0,1,2,4,6,7,9,10,20,21,47] rfl ?_;refine G.block rfl rfl ?_;refine G.loop (σ:=Nat) (fun i=>[(0,.pointer (some ⟨rb,0,none⟩)),(2,.int .i64 (n:Nat)),(4,.pointer (some ⟨h.size,0,none⟩)),(6,.pointer (some ⟨h1.size,0,none⟩)),(9,.pointer (some ⟨h3.size,0,none⟩)),(10,.int .i64 (i:Nat))]) (fun i h'=>i≤kn∧∃vs' p fa fn fc la ln lc stc,RuL O rb vs vb vl h L5 h5.size h' vs' stc∧LocB h.size h1.size (ndC 2 s (.slice oa kn kc)) h'∧Blk h' h3.size 186 [.bool p.null,.slice fa fn fc,.slice la ln lc]∧SlR .bool h' (ruQ O rb vs' vb L5) (.slice fa fn fc) p.first∧SlR .bool h' (ruQ O rb vs' vb L5) (.slice la ln lc) p.last∧PartOk n p∧RuOk n stc∧stc.1.length+cntL (kids.drop i)≤n∧gluCat n (kids.drop i) p stc=tgt) (fun i=>kn-i) (0) rfl ⟨rfl,rfl,rfl,rfl,rfl,rfl,trivial⟩ ⟨Nat.zero_le _,vs,⟨true,nob n,nob n⟩,_,_,_,_,_,_,st,R5,LB5,k9,hnb5,hnb5,nob_ok n true,hok,hroom,htgt⟩ ?_;rintro i g ⟨hi,vs',p,fa,fn,fc,la,ln,lc,stc,R,LB,k9,hf,hl,hpok,hcok,hcroom,hcon⟩ ih2;have hvb:=hr.ownB;have hL5s:Array.size h3<Array.size h5:=(hL5 _ hL9').2;refine G.seq rfl ?_;refine xra Tryz.func106 1 rfl ?_;refine xp rfl (OpP.fieldAddr (off:=5) Tryz.underlying153 rfl rfl H.sz151 rfl) ?_;refine xp rfl (OpP.load H.ag151 rfl (LB.k4.cell (i:=5) rfl)) ?_;refine xp rfl (OpP.lenSlice Tryz.underlying151 rfl) ?_;refine xqd 1 [0,2,4,6,9,10,56] rfl ?_;refine G.ite rfl rfl (fun hlt=>?_) (fun hlt=>?_)
     · have hik:i<kids.length:=by omega
       obtain⟨x,hx⟩:∃x,kids[i]? =some x:=⟨_,List.getElem?_eq_getElem hik⟩
       have hdr:kids.drop i=x::kids.drop (i+1):=by
        obtain⟨hi',rfl⟩:=List.getElem?_eq_some_iff.1 hx;exact List.drop_eq_getElem_cons hi'
       rw[hdr,gluCat] at hcon;rw[hdr] at hcroom;simp only[cntL] at hcroom;have hszx:=szL_mem hx;have hwx:=wfL_mem hwl hx;have hokx:=glu_ok n x stc hcok;have hroomx:=hokx.2.2.2 hwx;obtain⟨b,o,cs,ha,hob,hrow,hnd⟩:=(hsl.mv R.old).get i x hx;obtain⟨w2,rfl,-⟩:=NdAt.open hnd;have hgz:=R.size;refine G.skip rfl ?_;refine G.seq rfl ?_;refine G.block rfl rfl ?_;refine xra Tryz.func106 1 rfl ?_;refine xp rfl (OpP.fieldAddr (off:=5) Tryz.underlying153 rfl rfl H.sz151 rfl) ?_;refine xp rfl (OpP.load H.ag151 rfl (LB.k4.cell (i:=5) rfl)) ?_;refine xqp 1 rfl rfl (OpP.indexSlice Tryz.underlying151 H.sz153 rfl rfl i rfl ha (by omega)) ?_;refine xp rfl (OpP.loadRowN H.ag153 H.sz153 rfl hrow (by first|rfl|(simp;done)|(simp;omega))) ?_;refine xqm 1 rfl ?_;refine xo rfl (OpX.call (vs:=[_,_,_]) Tryz.func106 rfl H.nm106 rfl (CallsH.toX (ih (x:=x) (O:=ruO O L5) (by omega) R.at_ (fun b hb=>R.qlt b (.inr hb)) hnd hwx hcok (by omega) hn))) ?_;rintro _ g1 ⟨vs1,f1,l1,rfl,a1,hf1,hl1,e1x,ho1⟩;refine xo rfl (OpX.allocN H.zr186) ?_;rintro _ g2 ⟨rfl,k11,e2x,z2x⟩;generalize glu n x stc=out at *;have hf1':∃oa n c,f1= .slice oa n c:=by obtain⟨oa,n,c,rfl,_⟩:=hf1;exact⟨_,_,_,rfl⟩
       obtain⟨f1a,f1n,f1c,rfl⟩:=hf1';have hl1':∃oa n c,l1= .slice oa n c:=by obtain⟨oa,n,c,rfl,_⟩:=hl1;exact⟨_,_,_,rfl⟩
       obtain⟨l1a,l1n,l1c,rfl⟩:=hl1';have R1:=R.sub a1 e1x ho1;have z1x:=e1x.size;have LB1:=LB.ext e1x (R.loc _ hL4') (R.loc _ hL6');have k9:=k9.ext e1x (R.loc _ hL9');have hf:=hf.mv (R.subQ e1x ho1);have hl:=hl.mv (R.subQ e1x ho1);refine RW.op0 rfl rfl rfl (OpX.storeBlk H.sz186 rfl rfl k11 (by first|rfl|(simp;done)|(simp;omega)) (by first|decide|exact of_decide_eq_true rfl|(simp;done)|(simp;omega)) (by first|decide|simp[Value.oneCell'])) ?_;rintro _ g3 ⟨rfl,k11,x3,z3x⟩;have k11:Blk g3 g1.size 186 [.bool out.1.null,.slice f1a f1n f1c,.slice l1a l1n l1c]:=k11;have e13:Ext0 g1 g3:=Ext0.only e2x x3 (Nat.le_refl _);have R3':=R1.ext0 e13;have LB3:=LB1.ext0 e13;have k9:=k9.ext0 e13;have hf:=hf.mv (Mv.ext0 e13);have hl:=hl.mv (Mv.ext0 e13);have hf1:SlR .bool g3 (ruQ O rb vs1 vb L5) _ out.1.first:=SlR.mv hf1 (Mv.ext0 e13)
       have hl1:SlR .bool g3 (ruQ O rb vs1 vb L5) _ out.1.last:=SlR.mv hl1 (Mv.ext0 e13);refine xd [0,2,4,6,9,10,11,56] rfl ?_;refine xra Tryz.func106 1 rfl ?_;refine xp rfl (OpP.fieldAddr (off:=2) Tryz.underlying186 rfl rfl H.sz106 rfl) ?_;refine xp rfl (OpP.load H.ag106 rfl (k9.cell (i:=2) rfl)) ?_;refine xp rfl (OpP.fieldAddr (off:=1) Tryz.underlying186 rfl rfl H.sz106 rfl) ?_;refine xp rfl (OpP.load H.ag106 rfl (k11.cell (i:=1) rfl)) ?_;refine xo rfl (OpX.call (vs:=[_,_,_]) Tryz.func123 rfl H.nm123 rfl (CallsH.toX (follow_calls R3'.at_ (fun b hb=>R3'.qlt b (.inr hb)) (SlR.less hl (fun _ k=>.inl k)) (SlR.less hf1 (fun _ k=>.inl k)) hokx.2.1 hpok.last hokx.1.first hn))) ?_;rintro _ g4 ⟨a4,e4x⟩;have R4:=R3'.fol a4 e4x;have z4x:=e4x.size;have n11:¬but vb.ownBlock g1.size:=fun k=>by have:=hvb _ k.symm;omega
       have k11:=k11.ext e4x n11;have LB4:=LB3.ext e4x (fun k=>R3'.loc _ hL4' (.inr (.inr k))) (fun k=>R3'.loc _ hL6' (.inr (.inr k)));have k9:=k9.ext e4x (fun k=>R3'.loc _ hL9' (.inr (.inr k)));have hf:=hf.mv (R3'.folQ e4x);have hl:=hl.mv (R3'.folQ e4x);have hf1:=hf1.mv (R3'.folQ e4x);have hl1:=hl1.mv (R3'.folQ e4x);have hcpok:=catPart_ok hpok hokx.1;have hcfok:=follow_ok (S:=out.2.1) hpok.last hokx.1.first hokx.2.1
       have hg1n:¬g1.size=h3.size:=by omega
       refine xd [0,2,4,6,9,10,11,56] rfl ?_;refine G.seq rfl ?_;refine xr Tryz.func106 rfl ?_;refine xp rfl (OpP.fieldAddr (off:=0) Tryz.underlying186 rfl rfl H.sz4 rfl) ?_;refine xp rfl (OpP.load H.ag4 rfl (k9.cell (i:=0) rfl)) ?_;refine xd [0,2,4,6,9,10,11,56,74] rfl ?_
       have st1:∀(f2a:Option Addr) (f2n f2c:Nat) (h':Heap) (ρ':Env),Sub [(0,.pointer (some ⟨rb,0,none⟩)),(2,.int .i64 (n:Nat)),(4,.pointer (some ⟨h.size,0,none⟩)),(6,.pointer (some ⟨h1.size,0,none⟩)),(9,.pointer (some ⟨h3.size,0,none⟩)),(10,.int .i64 (i:Nat)),(11,.pointer (some ⟨g1.size,0,none⟩))] ρ'→RuL O rb vs vb vl h L5 h5.size h' vs1 (out.2.1,followB p.last out.1.first out.2.2)→LocB h.size h1.size (ndC 2 s (.slice oa kn kc)) h'→Blk h' h3.size 186 [.bool p.null,.slice f2a f2n f2c,.slice la ln lc]→Blk h' g1.size 186 [.bool out.1.null,.slice f1a f1n f1c,.slice l1a l1n l1c]→SlR .bool h' (ruQ O rb vs1 vb L5) (.slice f2a f2n f2c) (catPart p out.1).first→SlR .bool h' (ruQ O rb vs1 vb L5) (.slice la ln lc) p.last→SlR .bool h' (ruQ O rb vs1 vb L5) (.slice l1a l1n l1c) out.1.last→G Tryz.prog 106 Tryz.f106 [.code [1,1,1,0,0,1,0,0,1,0,1,0,1,1,1,0,1,0,1,1],.blk 2,.code [1,1,0,0,1,0,1,0,1,1,1,0,1,0,1,1],.loop [0,0,1,0,1,0,1,1,1,0,1,0,1,1],.blk 1,.code [1,1,0,1,1,1,0,1,0,1,1],.blk 0,.code [1,1,1]] ρ' h' (Ret (LayRV O rb h vs vb vl tgt)):=by
        rintro f2a f2n f2c g5 ρ' hsub R6 LB6 k9 k11 hf2 hl hl1;refine G.sub (ρ':=[(0,.pointer (some ⟨rb,0,none⟩)),(2,.int .i64 (n:Nat)),(4,.pointer (some ⟨h.size,0,none⟩)),(6,.pointer (some ⟨h1.size,0,none⟩)),(9,.pointer (some ⟨h3.size,0,none⟩)),(10,.int .i64 (i:Nat)),(11,.pointer (some ⟨g1.size,0,none⟩))]) hsub ?_;refine G.seq rfl ?_;refine xr Tryz.func106 rfl ?_;refine xp rfl (OpP.fieldAddr (off:=0) Tryz.underlying186 rfl rfl H.sz4 rfl) ?_;refine xp rfl (OpP.load H.ag4 rfl (k11.cell (i:=0) rfl)) ?_;refine xd [0,2,4,6,9,10,11,82] rfl ?_
        have st2:∀(f2a:Option Addr) (f2n f2c:Nat) (l2a:Option Addr) (l2n l2c:Nat) (h':Heap) (ρ':Env),Sub [(0,.pointer (some ⟨rb,0,none⟩)),(2,.int .i64 (n:Nat)),(4,.pointer (some ⟨h.size,0,none⟩)),(6,.pointer (some ⟨h1.size,0,none⟩)),(9,.pointer (some ⟨h3.size,0,none⟩)),(10,.int .i64 (i:Nat)),(11,.pointer (some ⟨g1.size,0,none⟩))] ρ'→RuL O rb vs vb vl h L5 h5.size h' vs1 (out.2.1,followB p.last out.1.first out.2.2)→LocB h.size h1.size (ndC 2 s (.slice oa kn kc)) h'→Blk h' h3.size 186 [.bool p.null,.slice f2a f2n f2c,.slice l2a l2n l2c]→Blk h' g1.size 186 [.bool out.1.null,.slice f1a f1n f1c,.slice l1a l1n l1c]→SlR .bool h' (ruQ O rb vs1 vb L5) (.slice f2a f2n f2c) (catPart p out.1).first→SlR .bool h' (ruQ O rb vs1 vb L5) (.slice l2a l2n l2c) (catPart p out.1).last→G Tryz.prog 106 Tryz.f106 [.code [1,1,1,1,0,0,1,0,0,1,0,1,0,1,1,1,0,1,0,1,1],.blk 2,.code [1,1,0,0,1,0,1,0,1,1,1,0,1,0,1,1],.loop [0,0,1,0,1,0,1,1,1,0,1,0,1,1],.blk 1,.code [1,1,0,1,1,1,0,1,0,1,1],.blk 0,.code [1,1,1]] ρ' h' (Ret (LayRV O rb h vs vb vl tgt)):=by
         rintro f2a f2n f2c l2a l2n l2c g5 ρ' hsub R6 LB6 k9 k11 hf2 hl2;refine G.sub (ρ':=[(0,.pointer (some ⟨rb,0,none⟩)),(2,.int .i64 (n:Nat)),(4,.pointer (some ⟨h.size,0,none⟩)),(6,.pointer (some ⟨h1.size,0,none⟩)),(9,.pointer (some ⟨h3.size,0,none⟩)),(10,.int .i64 (i:Nat)),(11,.pointer (some ⟨g1.size,0,none⟩))]) hsub ?_;refine G.reg Tryz.func106 rfl ?_;refine xp rfl (OpP.fieldAddr (off:=0) Tryz.underlying186 rfl rfl H.sz4 rfl) ?_;refine xp rfl (OpP.load H.ag4 rfl (k9.cell (i:=0) rfl)) ?_;refine xqm 1 rfl ?_;refine RW.split (d:=94) rfl (fun hg=>?_) (fun hg=>?_)
         · refine xp rfl (OpP.fieldAddr (off:=0) Tryz.underlying186 rfl rfl H.sz4 rfl) ?_;refine xp rfl (OpP.load H.ag4 rfl (k11.cell (i:=0) rfl)) ?_;refine xqp 1 rfl rfl (OpP.fieldAddr (off:=0) Tryz.underlying186 rfl rfl H.sz4 rfl) ?_;refine RW.op0 rfl rfl rfl (OpX.storeOne H.sz4 rfl rfl k9 (by first|decide|exact of_decide_eq_true rfl|(simp;done)|(simp;omega)) rfl) ?_;rintro _ g7 ⟨rfl,k9',x7,z7⟩;refine xd [0,2,4,6,9,10,11] rfl ?_;refine G.blkEnd ?_;refine G.reg Tryz.func106 rfl ?_;refine xqp 1 rfl rfl (OpP.add64 rfl rfl ⟨by omega,by omega⟩) ?_;refine xqd 1 [0,2,4,6,9,10,11] rfl ?_;exact ih2 (i+1) _ _ ⟨rfl,rfl,rfl,rfl,rfl,rfl,trivial⟩ ⟨by omega,vs1,catPart p out.1,_,_,_,_,_,_,_,R6.put x7 hL9',LB6.ext x7 (by show ¬_=_;omega) (by show ¬_=_;omega),by simp only[catPart,hg,Bool.true_and];exact k9',hf2.mv (R6.putQ x7 hL9'),hl2.mv (R6.putQ x7 hL9'),hcpok,hcfok,by show out.2.1.length+_≤n;omega,hcon⟩ (by omega)
         · refine xqp 3 rfl rfl (OpP.fieldAddr (off:=0) Tryz.underlying186 rfl rfl H.sz4 rfl) ?_;refine RW.op0 rfl rfl rfl (OpX.storeOne H.sz4 rfl rfl k9 (by first|decide|exact of_decide_eq_true rfl|(simp;done)|(simp;omega)) rfl) ?_;rintro _ g7 ⟨rfl,k9',x7,z7⟩;refine xd [0,2,4,6,9,10,11] rfl ?_;refine G.blkEnd ?_;refine G.reg Tryz.func106 rfl ?_;refine xqp 1 rfl rfl (OpP.add64 rfl rfl ⟨by omega,by omega⟩) ?_;refine xqd 1 [0,2,4,6,9,10,11] rfl ?_;exact ih2 (i+1) _ _ ⟨rfl,rfl,rfl,rfl,rfl,rfl,trivial⟩ ⟨by omega,vs1,catPart p out.1,_,_,_,_,_,_,_,R6.put x7 hL9',LB6.ext x7 (by show ¬_=_;omega) (by show ¬_=_;omega),by simp only[catPart,hg,Bool.false_and];exact k9',hf2.mv (R6.putQ x7 hL9'),hl2.mv (R6.putQ x7 hL9'),hcpok,hcfok,by show out.2.1.length+_≤n;omega,hcon⟩ (by omega)
        refine G.cond rfl rfl (fun hg=>?_) (fun hg=>?_)
        · refine G.reg Tryz.func106 rfl ?_;refine xp rfl (OpP.fieldAddr (off:=2) Tryz.underlying186 rfl rfl H.sz106 rfl) ?_;refine xp rfl (OpP.load H.ag106 rfl (k9.cell (i:=2) rfl)) ?_;refine xp rfl (OpP.fieldAddr (off:=2) Tryz.underlying186 rfl rfl H.sz106 rfl) ?_;refine xp rfl (OpP.load H.ag106 rfl (k11.cell (i:=2) rfl)) ?_;refine xo rfl (OpX.call (vs:=[_,_]) Tryz.func107 rfl H.nm107 rfl (CallsH.toX (or_calls hl hl1 (by rw[hpok.last,hokx.1.last];exact Nat.le_refl _) (by rw[hpok.last];exact hn)))) ?_;rintro w5 g6 ⟨ho6,e6x⟩;have R7:=R6.ext0 e6x;obtain⟨wa,wc,rfl,_⟩:=(show OwnH g6 g5.size 4 1 w5 (orB p.last out.1.last).length ((orB p.last out.1.last).map Value.bool) from ho6).open;have hl2:SlR .bool g6 (ruQ O rb vs1 vb L5) _ (orB p.last out.1.last):=OwE.read (h1:=fun _=>rfl) ho6 (fun b hb k=>by have:=R6.qlt b k;omega);have z6x:=e6x.size;refine xp rfl (OpP.fieldAddr (off:=2) Tryz.underlying186 rfl rfl H.sz106 rfl) ?_;refine RW.op0 rfl rfl rfl (OpX.storeOne H.sz106 rfl rfl (k9.ext0 e6x) (by first|decide|exact of_decide_eq_true rfl|(simp;done)|(simp;omega)) rfl) ?_;rintro _ g7 ⟨rfl,k9',x7,z7⟩;refine xd [0,2,4,6,9,10,11,82] rfl ?_;exact st2 _ _ _ _ _ _ _ _ ⟨rfl,rfl,rfl,rfl,rfl,rfl,rfl,trivial⟩ (R7.put x7 hL9') ((LB6.ext0 e6x).ext x7 (by show ¬_=_;omega) (by show ¬_=_;omega)) k9' ((k11.ext0 e6x).ext x7 (by show ¬_=_;omega)) ((hf2.mv (Mv.ext0 e6x)).mv (R7.putQ x7 hL9')) (by simp only[catPart,hg,if_true];exact hl2.mv (R7.putQ x7 hL9'))
        · refine G.reg Tryz.func106 rfl ?_;refine xp rfl (OpP.fieldAddr (off:=2) Tryz.underlying186 rfl rfl H.sz106 rfl) ?_;refine xp rfl (OpP.load H.ag106 rfl (k11.cell (i:=2) rfl)) ?_;refine xp rfl (OpP.fieldAddr (off:=2) Tryz.underlying186 rfl rfl H.sz106 rfl) ?_;refine RW.op0 rfl rfl rfl (OpX.storeOne H.sz106 rfl rfl k9 (by first|decide|exact of_decide_eq_true rfl|(simp;done)|(simp;omega)) rfl) ?_;rintro _ g7 ⟨rfl,k9',x7,z7⟩;refine xd [0,2,4,6,9,10,11,82] rfl ?_;exact st2 _ _ _ _ _ _ _ _ ⟨rfl,rfl,rfl,rfl,rfl,rfl,rfl,trivial⟩ (R6.put x7 hL9') (LB6.ext x7 (by show ¬_=_;omega) (by show ¬_=_;omega)) k9' (k11.ext x7 (by show ¬_=_;omega)) (hf2.mv (R6.putQ x7 hL9')) (by simp only[catPart,hg];exact hl1.mv (R6.putQ x7 hL9'))
       refine G.cond rfl rfl (fun hg=>?_) (fun hg=>?_)
       · refine G.reg Tryz.func106 rfl ?_;refine xp rfl (OpP.fieldAddr (off:=1) Tryz.underlying186 rfl rfl H.sz106 rfl) ?_;refine xp rfl (OpP.load H.ag106 rfl (k9.cell (i:=1) rfl)) ?_;refine xp rfl (OpP.fieldAddr (off:=1) Tryz.underlying186 rfl rfl H.sz106 rfl) ?_;refine xp rfl (OpP.load H.ag106 rfl (k11.cell (i:=1) rfl)) ?_;refine xo rfl (OpX.call (vs:=[_,_]) Tryz.func107 rfl H.nm107 rfl (CallsH.toX (or_calls hf hf1 (by rw[hpok.first,hokx.1.first];exact Nat.le_refl _) (by rw[hpok.first];exact hn)))) ?_;rintro w5 g6 ⟨ho6,e6x⟩;have R7:=R4.ext0 e6x;obtain⟨wa,wc,rfl,_⟩:=(show OwnH g6 g4.size 4 1 w5 (orB p.first out.1.first).length ((orB p.first out.1.first).map Value.bool) from ho6).open;have hf2:SlR .bool g6 (ruQ O rb vs1 vb L5) _ (orB p.first out.1.first):=OwE.read (h1:=fun _=>rfl) ho6 (fun b hb k=>by have:=R4.qlt b k;omega);have z6x:=e6x.size;refine xp rfl (OpP.fieldAddr (off:=1) Tryz.underlying186 rfl rfl H.sz106 rfl) ?_;refine RW.op0 rfl rfl rfl (OpX.storeOne H.sz106 rfl rfl (k9.ext0 e6x) (by first|decide|exact of_decide_eq_true rfl|(simp;done)|(simp;omega)) rfl) ?_;rintro _ g7 ⟨rfl,k9',x7,z7⟩;refine xd [0,2,4,6,9,10,11,56,74] rfl ?_;exact st1 _ _ _ _ _ ⟨rfl,rfl,rfl,rfl,rfl,rfl,rfl,trivial⟩ (R7.put x7 hL9') ((LB4.ext0 e6x).ext x7 (by show ¬_=_;omega) (by show ¬_=_;omega)) k9' ((k11.ext0 e6x).ext x7 (by show ¬_=_;omega)) (by simp only[catPart,hg,if_true];exact hf2.mv (R7.putQ x7 hL9')) ((hl.mv (Mv.ext0 e6x)).mv (R7.putQ x7 hL9')) ((hl1.mv (Mv.ext0 e6x)).mv (R7.putQ x7 hL9'))
       · refine G.skip rfl ?_;exact st1 _ _ _ _ _ ⟨rfl,rfl,rfl,rfl,rfl,rfl,rfl,trivial⟩ R4 LB4 k9 k11 (by simp only[catPart,hg];exact hf) hl hl1
     · have hnil:kids.drop i=[]:=List.drop_of_length_le (by omega);rw[hnil,gluCat] at hcon;refine G.exit rfl rfl ?_;refine xr Tryz.func106 rfl ?_;refine xp rfl (OpP.loadRowN H.ag186 H.sz186 rfl k9.row (by first|rfl|(simp;done)|(simp;omega))) ?_;refine RW.op0 rfl rfl rfl (OpX.storeBlk H.sz186 rfl rfl LB.k6 (by first|rfl|(simp;done)|(simp;omega)) (by first|decide|exact of_decide_eq_true rfl|(simp;done)|(simp;omega)) (by first|decide|simp[Value.oneCell'])) ?_;rintro _ g9 ⟨rfl,hk9,hx9,hz9⟩;refine xd [0,2,4,6,9,10,56] rfl ?_;have hk9:Blk g9 h1.size 186 [.bool p.null,.slice fa fn fc,.slice la ln lc]:=hk9;refine G.retC Tryz.func106 rfl (.cons (ResOk.rowN H.ag186 H.sz186 rfl (hk9.row) (by first|rfl|(simp;done)|(simp;omega))) (.nil)) ?_;subst hcon;exact⟨_,rfl,(R.put hx9 hL6').fin (hf.mv (R.putQ hx9 hL6')) (hl.mv (R.putQ hx9 hL6'))⟩
   · have h2k':¬k=2:=kkR h2k;refine xrd Tryz.func106 2 [0,1,2,4,6,7,20,21,47,100] rfl ?_;refine G.ite rfl rfl (fun h3k=>?_) (fun h3k=>?_)
     · obtain rfl:k=3:=by omega
       have hglu:glu n (.mk 3 s kids) st=gluAlt n kids ⟨false,nob n,nob n⟩ st:=by rw[glu];simp
       rw[hglu];generalize htgt:gluAlt n kids ⟨false,nob n,nob n⟩ st=tgt;rw[if_neg (by decide),Nat.zero_add] at hroom;refine xra Tryz.func106 2 rfl ?_;refine xp rfl (OpP.build (H.bd186_0_1_2 _ _ _ _ _ _ _) rfl) ?_;refine xo rfl (OpX.allocN H.zr186) ?_;rintro _ h4 ⟨rfl,k9,e4,z4⟩;refine RW.op0 rfl rfl rfl (OpX.storeBlk H.sz186 rfl rfl k9 (by first|rfl|(simp;done)|(simp;omega)) (by first|decide|exact of_decide_eq_true rfl|(simp;done)|(simp;omega)) (by first|decide|simp[Value.oneCell'])) ?_;rintro _ h5 ⟨rfl,k9,x5,z5⟩;have k9:Blk h5 h3.size 186 [.bool false,.slice (some ⟨h2.size,0,none⟩) n n,.slice (some ⟨h2.size,0,none⟩) n n]:=k9;have e35:Ext0 h3 h5:=Ext0.only e4 x5 (Nat.le_refl _);have e05:=e03.trans e35;generalize hL5e:(fun b=>L2 b∨b=Array.size h3:Nat→Prop)=L5;have hL5:∀b,L5 b→h.size≤b∧b<h5.size:=by rw[←hL5e];rintro b (k|k);(have:=hL2 b k;omega);omega
       have hL4':L5 h.size:=by rw[←hL5e];exact .inl hLn
       have hL6':L5 h1.size:=by rw[←hL5e];exact .inl hLp
       have hL9':L5 h3.size:=by rw[←hL5e];exact .inr rfl
       have R5:RuL O rb vs vb vl h L5 h5.size h5 vs st:=⟨hr.ext (O':=ruO O L5) e05 (fun _ _ k=>k) (fun _ _ k=>k.elim) (fun b hb k=>k.elim id (fun k=>by have:=hL5 b k;omega)),e05.mono (fun _ _ k=>k.elim),fun b hb=>.inl hb,Nat.le_refl _,by omega,hltM,hO,hL5⟩
       have hnb3:SlR .bool h3 (ruQ O rb vs vb L2) (.slice (some ⟨h2.size,0,none⟩) n n) (nob n):=OwE.read (h1:=fun _=>rfl) q7 (fun b hb k=>by
        rcases k with k|k|k
        · have:=hltM b k;omega
        · have:=hO b k;omega
        · rw[←hLe] at k;rcases k with k|k<;>omega)
       have hnb5:SlR .bool h5 (ruQ O rb vs vb L5) (.slice (some ⟨h2.size,0,none⟩) n n) (nob n):=hnb3.mv ⟨e35.size,fun b hb hn=>⟨e35.block b hb (fun k=>k),by
        rintro(k|k|k)
        · exact hn (.inl k)
        · exact hn (.inr (.inl k))
        · rw[←hL5e] at k
          rcases k with k|k
          · exact hn (.inr (.inr k))
          · omega⟩⟩
       have LB5:LocB h.size h1.size (ndC 3 s (.slice oa kn kc)) h5:=⟨q4.ext0 e35,q6.ext0 e35⟩
       refine xd [0,1,2,4,6,7,12,20,21,47,100] rfl ?_;refine G.seq rfl ?_;refine xrd Tryz.func106 1 [0,1,2,4,6,7,12,13,20,21,47,100] rfl ?_;refine G.block rfl rfl ?_;refine G.loop (σ:=Nat) (fun i=>[(0,.pointer (some ⟨rb,0,none⟩)),(2,.int .i64 (n:Nat)),(4,.pointer (some ⟨h.size,0,none⟩)),(6,.pointer (some ⟨h1.size,0,none⟩)),(12,.pointer (some ⟨h3.size,0,none⟩)),(13,.int .i64 (i:Nat))]) (fun i h'=>i≤kn∧∃vs' p fa fn fc la ln lc stc,RuL O rb vs vb vl h L5 h5.size h' vs' stc∧LocB h.size h1.size (ndC 3 s (.slice oa kn kc)) h'∧Blk h' h3.size 186 [.bool p.null,.slice fa fn fc,.slice la ln lc]∧SlR .bool h' (ruQ O rb vs' vb L5) (.slice fa fn fc) p.first∧SlR .bool h' (ruQ O rb vs' vb L5) (.slice la ln lc) p.last∧PartOk n p∧RuOk n stc∧stc.1.length+cntL (kids.drop i)≤n∧gluAlt n (kids.drop i) p stc=tgt) (fun i=>kn-i) (0) rfl ⟨rfl,rfl,rfl,rfl,rfl,rfl,trivial⟩ ⟨Nat.zero_le _,vs,⟨false,nob n,nob n⟩,_,_,_,_,_,_,st,R5,LB5,k9,hnb5,hnb5,nob_ok n false,hok,hroom,htgt⟩ ?_;rintro i g ⟨hi,vs',p,fa,fn,fc,la,ln,lc,stc,R,LB,k9,hf,hl,hpok,hcok,hcroom,hcon⟩ ih2;have hvb:=hr.ownB;have hL5s:Array.size h3<Array.size h5:=(hL5 _ hL9').2;refine G.seq rfl ?_;refine xra Tryz.func106 1 rfl ?_;refine xp rfl (OpP.fieldAddr (off:=5) Tryz.underlying153 rfl rfl H.sz151 rfl) ?_;refine xp rfl (OpP.load H.ag151 rfl (LB.k4.cell (i:=5) rfl)) ?_;refine xp rfl (OpP.lenSlice Tryz.underlying151 rfl) ?_;refine xqd 1 [0,2,4,6,12,13,109] rfl ?_;refine G.ite rfl rfl (fun hlt=>?_) (fun hlt=>?_)
       · have hik:i<kids.length:=by omega
         obtain⟨x,hx⟩:∃x,kids[i]? =some x:=⟨_,List.getElem?_eq_getElem hik⟩
         have hdr:kids.drop i=x::kids.drop (i+1):=by
          obtain⟨hi',rfl⟩:=List.getElem?_eq_some_iff.1 hx;exact List.drop_eq_getElem_cons hi'
         rw[hdr,gluAlt] at hcon;rw[hdr] at hcroom;simp only[cntL] at hcroom;have hszx:=szL_mem hx;have hwx:=wfL_mem hwl hx;have hokx:=glu_ok n x stc hcok;have hroomx:=hokx.2.2.2 hwx;obtain⟨b,o,cs,ha,hob,hrow,hnd⟩:=(hsl.mv R.old).get i x hx;obtain⟨w2,rfl,-⟩:=NdAt.open hnd;have hgz:=R.size;refine G.skip rfl ?_;refine G.seq rfl ?_;refine G.block rfl rfl ?_;refine xra Tryz.func106 1 rfl ?_;refine xp rfl (OpP.fieldAddr (off:=5) Tryz.underlying153 rfl rfl H.sz151 rfl) ?_;refine xp rfl (OpP.load H.ag151 rfl (LB.k4.cell (i:=5) rfl)) ?_;refine xqp 1 rfl rfl (OpP.indexSlice Tryz.underlying151 H.sz153 rfl rfl i rfl ha (by omega)) ?_;refine xp rfl (OpP.loadRowN H.ag153 H.sz153 rfl hrow (by first|rfl|(simp;done)|(simp;omega))) ?_;refine xqm 1 rfl ?_;refine xo rfl (OpX.call (vs:=[_,_,_]) Tryz.func106 rfl H.nm106 rfl (CallsH.toX (ih (x:=x) (O:=ruO O L5) (by omega) R.at_ (fun b hb=>R.qlt b (.inr hb)) hnd hwx hcok (by omega) hn))) ?_;rintro _ g1 ⟨vs1,f1,l1,rfl,a1,hf1,hl1,e1x,ho1⟩;refine xo rfl (OpX.allocN H.zr186) ?_;rintro _ g2 ⟨rfl,k11,e2x,z2x⟩;generalize glu n x stc=out at *;have hf1':∃oa n c,f1= .slice oa n c:=by obtain⟨oa,n,c,rfl,_⟩:=hf1;exact⟨_,_,_,rfl⟩
         obtain⟨f1a,f1n,f1c,rfl⟩:=hf1';have hl1':∃oa n c,l1= .slice oa n c:=by obtain⟨oa,n,c,rfl,_⟩:=hl1;exact⟨_,_,_,rfl⟩
         obtain⟨l1a,l1n,l1c,rfl⟩:=hl1';have R1:=R.sub a1 e1x ho1;have z1x:=e1x.size;have LB1:=LB.ext e1x (R.loc _ hL4') (R.loc _ hL6');have k9:=k9.ext e1x (R.loc _ hL9');have hf:=hf.mv (R.subQ e1x ho1);have hl:=hl.mv (R.subQ e1x ho1);refine RW.op0 rfl rfl rfl (OpX.storeBlk H.sz186 rfl rfl k11 (by first|rfl|(simp;done)|(simp;omega)) (by first|decide|exact of_decide_eq_true rfl|(simp;done)|(simp;omega)) (by first|decide|simp[Value.oneCell'])) ?_;rintro _ g3 ⟨rfl,k11,x3,z3x⟩;have k11:Blk g3 g1.size 186 [.bool out.1.null,.slice f1a f1n f1c,.slice l1a l1n l1c]:=k11;have e13:Ext0 g1 g3:=Ext0.only e2x x3 (Nat.le_refl _);have R3':=R1.ext0 e13;have LB3:=LB1.ext0 e13;have k9:=k9.ext0 e13;have hf:=hf.mv (Mv.ext0 e13);have hl:=hl.mv (Mv.ext0 e13);have hf1:SlR .bool g3 (ruQ O rb vs1 vb L5) _ out.1.first:=SlR.mv hf1 (Mv.ext0 e13)
         have hl1:SlR .bool g3 (ruQ O rb vs1 vb L5) _ out.1.last:=SlR.mv hl1 (Mv.ext0 e13);have hcpok:=altPart_ok hpok hokx.1;have hg1n:¬g1.size=h3.size:=by omega
         have wmask:∀{ga gb:Heap}{w:Value}{xs:List Bool},RuL O rb vs vb vl h L5 h5.size ga vs1 out.2→OwE Value.bool gb ga.size 4 w xs→SlR .bool gb (ruQ O rb vs1 vb L5) w xs:=fun R ho=>OwE.read (h1:=fun _=>rfl) ho (fun b hb k=>by have:=R.qlt b k;omega)
         have hgl:∀{ga gb:Heap},Ext0 ga gb→Ext (fun b=>g3.size≤b) ga gb:=fun e=>e.mono (fun _ _ k=>k.elim)
         have lf:p.first.length≤out.1.first.length:=by rw[hpok.first,hokx.1.first];exact Nat.le_refl _
         have ll:p.last.length≤out.1.last.length:=by rw[hpok.last,hokx.1.last];exact Nat.le_refl _
         have lfn:p.first.length≤1000000:=by rw[hpok.first];exact hn
         have lln:p.last.length≤1000000:=by rw[hpok.last];exact hn
         refine xd [0,2,4,6,12,13,14,109] rfl ?_;refine G.draw (fun b=>Array.size g3≤b) (fun i=>Nat.blt i 17) (sz:=18) (listed:= #[false,false,false,false,false,false,false,false,false,false,false,false,false,false,false,false,false,false]) Tryz.func106 H.mixed rfl rfl rfl ?_;refine xtp 0 1 (by kernel_rfl) rfl (fun h' e=>OpP.fieldAddr (off:=0) Tryz.underlying186 rfl rfl H.sz4 rfl) ?_;refine xtp 1 3 (by kernel_rfl) rfl (fun h' e=>OpP.load H.ag4 rfl (e.old (k9.cell (i:=0) rfl))) ?_;refine xtq 2 7 (by kernel_rfl) rfl ?_;refine xtp 6 71 (by kernel_rfl) rfl (fun h' e=>OpP.fieldAddr (off:=1) Tryz.underlying186 rfl rfl H.sz106 rfl) ?_;refine RD.split (d:=122) rfl (fun hg=>?_) (fun hg=>?_)
         · refine xtk 3 79 (by kernel_rfl) rfl ?_;refine xtk 4 95 (by kernel_rfl) rfl ?_;refine xtq 5 127 (by kernel_rfl) rfl ?_;refine xtp 7 255 (by kernel_rfl) rfl (fun h' e=>OpP.load H.ag106 rfl (e.old (k9.cell (i:=1) rfl))) ?_;refine xtp 8 511 (by kernel_rfl) rfl (fun h' e=>OpP.fieldAddr (off:=1) Tryz.underlying186 rfl rfl H.sz106 rfl) ?_;refine xtp 9 1023 (by kernel_rfl) rfl (fun h' e=>OpP.load H.ag106 rfl (e.old (k11.cell (i:=1) rfl))) ?_;refine xtp 11 3071 (by kernel_rfl) rfl (fun h' e=>OpP.fieldAddr (off:=2) Tryz.underlying186 rfl rfl H.sz106 rfl) ?_;refine xtp 12 7167 (by kernel_rfl) rfl (fun h' e=>OpP.load H.ag106 rfl (e.old (k9.cell (i:=2) rfl))) ?_;refine xtp 13 15359 (by kernel_rfl) rfl (fun h' e=>OpP.fieldAddr (off:=2) Tryz.underlying186 rfl rfl H.sz106 rfl) ?_;refine xtp 14 31743 (by kernel_rfl) rfl (fun h' e=>OpP.load H.ag106 rfl (e.old (k11.cell (i:=2) rfl))) ?_;refine xto 10 32767 (by kernel_rfl) rfl (OpX.call (vs:=[_,_]) Tryz.func107 rfl H.nm107 rfl (CallsH.toX (or_calls hf hf1 lf lfn))) ?_;rintro w5 g5 ⟨ho5,e5x⟩;refine⟨fun _=>hgl e5x,?_⟩;refine xto 15 65535 (by kernel_rfl) rfl (OpX.call (vs:=[_,_]) Tryz.func107 rfl H.nm107 rfl (CallsH.toX (or_calls (hl.mv (Mv.ext0 e5x)) (hl1.mv (Mv.ext0 e5x)) ll lln))) ?_;rintro w6 g6 ⟨ho6,e6x⟩;refine⟨fun _=>hgl e6x,?_⟩;obtain⟨wa,wc,rfl,_⟩:=(show OwnH g5 g3.size 4 1 w5 (orB p.first out.1.first).length ((orB p.first out.1.first).map Value.bool) from ho5).open;obtain⟨ua,uc,rfl,_⟩:=(show OwnH g6 g5.size 4 1 w6 (orB p.last out.1.last).length ((orB p.last out.1.last).map Value.bool) from ho6).open;have R5x:=R3'.ext0 e5x;have R6x:=R5x.ext0 e6x;have hf2:=(wmask R3' ho5).mv (Mv.ext0 e6x);have hl2:=wmask R5x ho6;have e36x:=e5x.trans e6x;refine xtp 16 131071 (by kernel_rfl) rfl (fun h' e=>OpP.build (H.bd186_0_1_2 _ _ _ _ _ _ _) rfl) ?_;refine xt0 17 262143 (by kernel_rfl) rfl (OpX.storeBlk H.sz186 rfl rfl (k9.ext0 e36x) (by first|rfl|(simp;done)|(simp;omega)) (by first|decide|exact of_decide_eq_true rfl|(simp;done)|(simp;omega)) (by first|decide|simp[Value.oneCell'])) ?_;rintro _ g7 ⟨rfl,k9',x7,z7⟩;refine⟨fun hk=>(nomatch hk),?_⟩;have k9':Blk g7 h3.size 186 [.bool true,.slice wa (orB p.first out.1.first).length wc,.slice ua (orB p.last out.1.last).length uc]:=k9';refine RD.done (by kernel_rfl) ?_;refine xu [0,2,4,6,12,13,14,109] rfl ?_;refine G.blkEnd ?_;refine G.reg Tryz.func106 rfl ?_;refine xqp 1 rfl rfl (OpP.add64 rfl rfl ⟨by omega,by omega⟩) ?_;refine xqd 1 [0,2,4,6,12,13,14,109] rfl ?_;exact ih2 (i+1) _ _ ⟨rfl,rfl,rfl,rfl,rfl,rfl,trivial⟩ ⟨by omega,vs1,altPart p out.1,_,_,_,_,_,_,_,R6x.put x7 hL9',(LB3.ext0 e36x).ext x7 (by show ¬_=_;omega) (by show ¬_=_;omega),by simp only[altPart,hg,Bool.true_or];exact k9',hf2.mv (R6x.putQ x7 hL9'),hl2.mv (R6x.putQ x7 hL9'),hcpok,hokx.2.1,by omega,hcon⟩ (by omega)
         · refine xtp 3 79 (by kernel_rfl) rfl (fun h' e=>OpP.fieldAddr (off:=0) Tryz.underlying186 rfl rfl H.sz4 rfl) ?_;refine xtp 4 95 (by kernel_rfl) rfl (fun h' e=>OpP.load H.ag4 rfl (e.old (k11.cell (i:=0) rfl))) ?_;refine xtq 5 127 (by kernel_rfl) rfl ?_;refine xtp 7 255 (by kernel_rfl) rfl (fun h' e=>OpP.load H.ag106 rfl (e.old (k9.cell (i:=1) rfl))) ?_;refine xtp 8 511 (by kernel_rfl) rfl (fun h' e=>OpP.fieldAddr (off:=1) Tryz.underlying186 rfl rfl H.sz106 rfl) ?_;refine xtp 9 1023 (by kernel_rfl) rfl (fun h' e=>OpP.load H.ag106 rfl (e.old (k11.cell (i:=1) rfl))) ?_;refine xtp 11 3071 (by kernel_rfl) rfl (fun h' e=>OpP.fieldAddr (off:=2) Tryz.underlying186 rfl rfl H.sz106 rfl) ?_;refine xtp 12 7167 (by kernel_rfl) rfl (fun h' e=>OpP.load H.ag106 rfl (e.old (k9.cell (i:=2) rfl))) ?_;refine xtp 13 15359 (by kernel_rfl) rfl (fun h' e=>OpP.fieldAddr (off:=2) Tryz.underlying186 rfl rfl H.sz106 rfl) ?_;refine xtp 14 31743 (by kernel_rfl) rfl (fun h' e=>OpP.load H.ag106 rfl (e.old (k11.cell (i:=2) rfl))) ?_;refine xto 10 32767 (by kernel_rfl) rfl (OpX.call (vs:=[_,_]) Tryz.func107 rfl H.nm107 rfl (CallsH.toX (or_calls hf hf1 lf lfn))) ?_;rintro w5 g5 ⟨ho5,e5x⟩;refine⟨fun _=>hgl e5x,?_⟩;refine xto 15 65535 (by kernel_rfl) rfl (OpX.call (vs:=[_,_]) Tryz.func107 rfl H.nm107 rfl (CallsH.toX (or_calls (hl.mv (Mv.ext0 e5x)) (hl1.mv (Mv.ext0 e5x)) ll lln))) ?_;rintro w6 g6 ⟨ho6,e6x⟩;refine⟨fun _=>hgl e6x,?_⟩;obtain⟨wa,wc,rfl,_⟩:=(show OwnH g5 g3.size 4 1 w5 (orB p.first out.1.first).length ((orB p.first out.1.first).map Value.bool) from ho5).open;obtain⟨ua,uc,rfl,_⟩:=(show OwnH g6 g5.size 4 1 w6 (orB p.last out.1.last).length ((orB p.last out.1.last).map Value.bool) from ho6).open;have R5x:=R3'.ext0 e5x;have R6x:=R5x.ext0 e6x;have hf2:=(wmask R3' ho5).mv (Mv.ext0 e6x);have hl2:=wmask R5x ho6;have e36x:=e5x.trans e6x;refine xtp 16 131071 (by kernel_rfl) rfl (fun h' e=>OpP.build (H.bd186_0_1_2 _ _ _ _ _ _ _) rfl) ?_;refine xt0 17 262143 (by kernel_rfl) rfl (OpX.storeBlk H.sz186 rfl rfl (k9.ext0 e36x) (by first|rfl|(simp;done)|(simp;omega)) (by first|decide|exact of_decide_eq_true rfl|(simp;done)|(simp;omega)) (by first|decide|simp[Value.oneCell'])) ?_;rintro _ g7 ⟨rfl,k9',x7,z7⟩;refine⟨fun hk=>(nomatch hk),?_⟩;have k9':Blk g7 h3.size 186 [.bool out.1.null,.slice wa (orB p.first out.1.first).length wc,.slice ua (orB p.last out.1.last).length uc]:=k9';refine RD.done (by kernel_rfl) ?_;refine xu [0,2,4,6,12,13,14,109] rfl ?_;refine G.blkEnd ?_;refine G.reg Tryz.func106 rfl ?_;refine xqp 1 rfl rfl (OpP.add64 rfl rfl ⟨by omega,by omega⟩) ?_;refine xqd 1 [0,2,4,6,12,13,14,109] rfl ?_;exact ih2 (i+1) _ _ ⟨rfl,rfl,rfl,rfl,rfl,rfl,trivial⟩ ⟨by omega,vs1,altPart p out.1,_,_,_,_,_,_,_,R6x.put x7 hL9',(LB3.ext0 e36x).ext x7 (by show ¬_=_;omega) (by show ¬_=_;omega),by simp only[altPart,hg,Bool.false_or];exact k9',hf2.mv (R6x.putQ x7 hL9'),hl2.mv (R6x.putQ x7 hL9'),hcpok,hokx.2.1,by omega,hcon⟩ (by omega)
       · have hnil:kids.drop i=[]:=List.drop_of_length_le (by omega);rw[hnil,gluAlt] at hcon;refine G.exit rfl rfl ?_;refine xr Tryz.func106 rfl ?_;refine xp rfl (OpP.loadRowN H.ag186 H.sz186 rfl k9.row (by first|rfl|(simp;done)|(simp;omega))) ?_;refine RW.op0 rfl rfl rfl (OpX.storeBlk H.sz186 rfl rfl LB.k6 (by first|rfl|(simp;done)|(simp;omega)) (by first|decide|exact of_decide_eq_true rfl|(simp;done)|(simp;omega)) (by first|decide|simp[Value.oneCell'])) ?_;rintro _ g9 ⟨rfl,hk9,hx9,hz9⟩;refine xd [0,2,4,6,12,13,109] rfl ?_;have hk9:Blk g9 h1.size 186 [.bool p.null,.slice fa fn fc,.slice la ln lc]:=hk9;refine G.retC Tryz.func106 rfl (.cons (ResOk.rowN H.ag186 H.sz186 rfl (hk9.row) (by first|rfl|(simp;done)|(simp;omega))) (.nil)) ?_;subst hcon;exact⟨_,rfl,(R.put hx9 hL6').fin (hf.mv (R.putQ hx9 hL6')) (hl.mv (R.putQ hx9 hL6'))⟩
     · have h3k':¬k=3:=kkR h3k;refine G.seq rfl ?_;refine xrd Tryz.func106 2 [0,1,2,4,6,7,20,21,47,100,138] rfl ?_
       have st45:∀(b45:Bool) (h':Heap) (ρ':Env),Sub [(0,.pointer (some ⟨rb,0,none⟩)),(2,.int .i64 (n:Nat)),(4,.pointer (some ⟨h.size,0,none⟩)),(6,.pointer (some ⟨h1.size,0,none⟩)),(7,.slice (some ⟨h2.size,0,none⟩) n n),(20,.int .i64 (k:Nat)),(138,.bool b45)] ρ'→h'=h3→b45=decide (k=4∨k=5)→G Tryz.prog 106 Tryz.f106 [.code [1,1,1,1,1,1,1,0,1,0,1,1],.blk 0,.code [1,1,1]] ρ' h' (Ret (LayRV O rb h vs vb vl (glu n (.mk k s kids) st))):=by
        rintro b45 h3' ρ' hsub rfl hb45;refine G.sub (ρ':=[(0,.pointer (some ⟨rb,0,none⟩)),(2,.int .i64 (n:Nat)),(4,.pointer (some ⟨h.size,0,none⟩)),(6,.pointer (some ⟨h1.size,0,none⟩)),(7,.slice (some ⟨h2.size,0,none⟩) n n),(20,.int .i64 (k:Nat)),(138,.bool b45)]) hsub ?_;refine G.cond rfl rfl (fun h45=>?_) (fun h45=>?_)
        · have hk45:k=4∨k=5:=by rw[h45] at hb45;exact of_decide_eq_true hb45.symm
          have hone:kids.length=1:=by
           rcases hk45 with rfl|rfl<;>(simp[wfN] at hw;exact hw.1)
          obtain⟨x,rfl⟩:∃x,kids=[x]:=by match kids,hone with| [x],_=>exact⟨x,rfl⟩
          have hkn1:kn=1:=by simpa using hkn.symm
          have hszx:szN x≤szL [x]:=by simp[szL]
          have hcx:cnt x≤cntL [x]:=by simp[cntL]
          have hwx:wfN x=true:=by simpa [wfL] using hwl
          have hglu:glu n (.mk k s [x]) st=(⟨(glu n x st).1.null ||k ==4,(glu n x st).1.first,(glu n x st).1.last⟩,((glu n x st).2.1,followB (glu n x st).1.last (glu n x st).1.first (glu n x st).2.2)):=by rw[glu];simp[gluOne,h1k',h2k',h3k',hk45]
          rw[hglu];have hokx:=glu_ok n x st hok;obtain⟨b,o,cs,ha,hob,hrow,hnd⟩:=(hsl.mv (Mv.ext0 e03)).get 0 x rfl;obtain⟨w2,rfl,-⟩:=NdAt.open hnd;have hO3:∀b,ruO O L2 b→b<h3'.size:=fun b hb=>R3.qlt b (.inr hb)
          refine xra Tryz.func106 1 rfl ?_;refine xp rfl (OpP.fieldAddr (off:=5) Tryz.underlying153 rfl rfl H.sz151 rfl) ?_;refine xp rfl (OpP.load H.ag151 rfl (q4.cell (i:=5) rfl)) ?_;refine xp rfl (OpP.indexSlice Tryz.underlying151 H.sz153 rfl rfl 0 rfl ha (by omega)) ?_;refine xp rfl (OpP.loadRowN H.ag153 H.sz153 rfl hrow (by first|rfl|(simp;done)|(simp;omega))) ?_;refine xqm 1 rfl ?_;refine xo rfl (OpX.call (vs:=[_,_,_]) Tryz.func106 rfl H.nm106 rfl (CallsH.toX (ih (x:=x) (O:=ruO O L2) (by omega) R3.at_ hO3 hnd hwx hok (by omega) hn))) ?_;rintro _ h5 ⟨vs5,f5,l5,rfl,a5,hf5,hl5,e5,ho5⟩;refine xo rfl (OpX.allocN H.zr186) ?_;rintro _ h6 ⟨rfl,k15,e6,z6⟩;generalize glu n x st=out at *;have hf1:∃oa n c,f5= .slice oa n c:=by obtain⟨oa,n,c,rfl,_⟩:=hf5;exact⟨_,_,_,rfl⟩
          obtain⟨fa,fn,fc,rfl⟩:=hf1;have hl1:∃oa n c,l5= .slice oa n c:=by obtain⟨oa,n,c,rfl,_⟩:=hl5;exact⟨_,_,_,rfl⟩
          obtain⟨la,ln,lc,rfl⟩:=hl1;have R5:=R3.sub a5 e5 ho5;have z5:=e5.size;have q4:=(q4.ext e5 (R3.loc _ hLn)).ext0 e6;have q6:=(q6.ext e5 (R3.loc _ hLp)).ext0 e6;refine RW.op0 rfl rfl rfl (OpX.storeBlk H.sz186 rfl rfl k15 (by first|rfl|(simp;done)|(simp;omega)) (by first|decide|exact of_decide_eq_true rfl|(simp;done)|(simp;omega)) (by first|decide|simp[Value.oneCell'])) ?_;rintro _ h7 ⟨rfl,k15,x7,z7⟩;have k15:Blk h7 h5.size 186 [.bool out.1.null,.slice fa fn fc,.slice la ln lc]:=k15;have e57:Ext0 h5 h7:=Ext0.only e6 x7 (Nat.le_refl _);have q4:=q4.ext x7 (by show ¬_=_;omega);have q6:=q6.ext x7 (by show ¬_=_;omega);have R7:=R5.ext0 e57;have hf7:SlR .bool h7 (ruQ O rb vs5 vb L2) _ out.1.first:=SlR.mv hf5 (Mv.ext0 e57)
          have hl7:SlR .bool h7 (ruQ O rb vs5 vb L2) _ out.1.last:=SlR.mv hl5 (Mv.ext0 e57);refine xd [0,2,4,6,7,15,20,138] rfl ?_;refine xra Tryz.func106 1 rfl ?_;refine xp rfl (OpP.fieldAddr (off:=2) Tryz.underlying186 rfl rfl H.sz106 rfl) ?_;refine xp rfl (OpP.load H.ag106 rfl (k15.cell (i:=2) rfl)) ?_;refine xp rfl (OpP.fieldAddr (off:=1) Tryz.underlying186 rfl rfl H.sz106 rfl) ?_;refine xp rfl (OpP.load H.ag106 rfl (k15.cell (i:=1) rfl)) ?_;refine xo rfl (OpX.call (vs:=[_,_,_]) Tryz.func123 rfl H.nm123 rfl (CallsH.toX (follow_calls R7.at_ (fun b hb=>R7.qlt b (.inr hb)) (SlR.less hl7 (fun _ k=>.inl k)) (SlR.less hf7 (fun _ k=>.inl k)) hokx.2.1 hokx.1.last hokx.1.first hn))) ?_;rintro _ h8 ⟨a8,e8⟩;have R8:=R7.fol a8 e8;have hf8:=hf7.mv (R7.folQ e8);have hl8:=hl7.mv (R7.folQ e8);have hvb:=hr.ownB;have k15:=k15.ext e8 (fun k=>by have:=hvb _ k.symm;omega);have q4:=q4.ext e8 (fun k=>by have:=hvb _ k.symm;omega);have q6:=q6.ext e8 (fun k=>by have:=hvb _ k.symm;omega);refine xd [0,2,4,6,7,15,20,138] rfl ?_;refine xr Tryz.func106 rfl ?_;refine xp rfl (OpP.fieldAddr (off:=0) Tryz.underlying186 rfl rfl H.sz4 rfl) ?_;refine xp rfl (OpP.load H.ag4 rfl (k15.cell (i:=0) rfl)) ?_;refine xqm 1 rfl ?_;refine RW.split (d:=156) rfl (fun hg=>?_) (fun hg=>?_)
          · refine xqp 4 rfl rfl (OpP.fieldAddr (off:=1) Tryz.underlying186 rfl rfl H.sz106 rfl) ?_;refine xp rfl (OpP.load H.ag106 rfl (k15.cell (i:=1) rfl)) ?_;refine xp rfl (OpP.fieldAddr (off:=2) Tryz.underlying186 rfl rfl H.sz106 rfl) ?_;refine xp rfl (OpP.load H.ag106 rfl (k15.cell (i:=2) rfl)) ?_;refine xp rfl (OpP.build (H.bd186_0_1_2 _ _ _ _ _ _ _) rfl) ?_;refine RW.op0 rfl rfl rfl (OpX.storeBlk H.sz186 rfl rfl q6 (by first|rfl|(simp;done)|(simp;omega)) (by first|decide|exact of_decide_eq_true rfl|(simp;done)|(simp;omega)) (by first|decide|simp[Value.oneCell'])) ?_;rintro _ h9 ⟨rfl,hk9,hx9,hz9⟩;refine xd [0,2,4,6,7,15,20,138] rfl ?_;have hk9:Blk h9 h1.size 186 [.bool true,.slice fa fn fc,.slice la ln lc]:=hk9;refine G.retC Tryz.func106 rfl (.cons (ResOk.rowN H.ag186 H.sz186 rfl (hk9.row) (by first|rfl|(simp;done)|(simp;omega))) (.nil)) ?_;have R9:=R8.put hx9 hLp;have hfin:=R9.fin (p:=⟨out.1.null ||k ==4,out.1.first,out.1.last⟩) (hf8.mv (R8.putQ hx9 hLp)) (hl8.mv (R8.putQ hx9 hLp));simp only[hg,Bool.true_or] at hfin ⊢;exact⟨_,rfl,hfin⟩
          · refine xp rfl (OpP.fieldAddr (off:=0) Tryz.underlying153 rfl rfl H.sz3 rfl) ?_;refine xp rfl (OpP.load H.ag3 rfl (q4.cell (i:=0) rfl)) ?_;refine xqp 2 rfl rfl (OpP.fieldAddr (off:=1) Tryz.underlying186 rfl rfl H.sz106 rfl) ?_;refine xp rfl (OpP.load H.ag106 rfl (k15.cell (i:=1) rfl)) ?_;refine xp rfl (OpP.fieldAddr (off:=2) Tryz.underlying186 rfl rfl H.sz106 rfl) ?_;refine xp rfl (OpP.load H.ag106 rfl (k15.cell (i:=2) rfl)) ?_;refine xp rfl (OpP.build (H.bd186_0_1_2 _ _ _ _ _ _ _) rfl) ?_;refine RW.op0 rfl rfl rfl (OpX.storeBlk H.sz186 rfl rfl q6 (by first|rfl|(simp;done)|(simp;omega)) (by first|decide|exact of_decide_eq_true rfl|(simp;done)|(simp;omega)) (by first|decide|simp[Value.oneCell'])) ?_;rintro _ h9 ⟨rfl,hk9,hx9,hz9⟩;refine xd [0,2,4,6,7,15,20,138] rfl ?_;have hk9:Blk h9 h1.size 186 [.bool (decide ((k:Int)=4)),.slice fa fn fc,.slice la ln lc]:=hk9;refine G.retC Tryz.func106 rfl (.cons (ResOk.rowN H.ag186 H.sz186 rfl (hk9.row) (by first|rfl|(simp;done)|(simp;omega))) (.nil)) ?_;have R9:=R8.put hx9 hLp;have hfin:=R9.fin (p:=⟨out.1.null ||k ==4,out.1.first,out.1.last⟩) (hf8.mv (R8.putQ hx9 hLp)) (hl8.mv (R8.putQ hx9 hLp));have hkd:(k ==4)=decide ((k:Int)=4):=by rcases hk45 with rfl|rfl<;>rfl
            simp only[hg,Bool.false_or,hkd] at hfin ⊢;exact⟨_,rfl,hfin⟩
        · have hk45:¬(k=4∨k=5):=by rw[h45] at hb45;exact of_decide_eq_false hb45.symm
          refine xrd Tryz.func106 2 [0,2,4,6,7,20,138,166] rfl ?_;refine G.ite rfl rfl (fun h6k=>?_) (fun h6k=>?_)
          · obtain rfl:k=6:=by omega
            have hone:kids.length=1:=by simp[wfN] at hw;exact hw.1
            obtain⟨x,rfl⟩:∃x,kids=[x]:=by match kids,hone with| [x],_=>exact⟨x,rfl⟩
            have hkn1:kn=1:=by simpa using hkn.symm
            have hszx:szN x≤szL [x]:=by simp[szL]
            have hcx:cnt x≤cntL [x]:=by simp[cntL]
            have hwx:wfN x=true:=by simpa [wfL] using hwl
            have hglu:glu n (.mk 6 s [x]) st=(⟨true,(glu n x st).1.first,(glu n x st).1.last⟩,(glu n x st).2):=by rw[glu];simp[gluOne]
            rw[hglu];have hokx:=glu_ok n x st hok;obtain⟨b,o,cs,ha,hob,hrow,hnd⟩:=(hsl.mv (Mv.ext0 e03)).get 0 x rfl;obtain⟨w2,rfl,-⟩:=NdAt.open hnd;have hO3:∀b,ruO O L2 b→b<h3'.size:=fun b hb=>R3.qlt b (.inr hb)
            refine xra Tryz.func106 1 rfl ?_;refine xp rfl (OpP.fieldAddr (off:=5) Tryz.underlying153 rfl rfl H.sz151 rfl) ?_;refine xp rfl (OpP.load H.ag151 rfl (q4.cell (i:=5) rfl)) ?_;refine xp rfl (OpP.indexSlice Tryz.underlying151 H.sz153 rfl rfl 0 rfl ha (by omega)) ?_;refine xp rfl (OpP.loadRowN H.ag153 H.sz153 rfl hrow (by first|rfl|(simp;done)|(simp;omega))) ?_;refine xqm 1 rfl ?_;refine xo rfl (OpX.call (vs:=[_,_,_]) Tryz.func106 rfl H.nm106 rfl (CallsH.toX (ih (x:=x) (O:=ruO O L2) (by omega) R3.at_ hO3 hnd hwx hok (by omega) hn))) ?_;rintro _ h5 ⟨vs5,f5,l5,rfl,a5,hf5,hl5,e5,ho5⟩;refine xo rfl (OpX.allocN H.zr186) ?_;rintro _ h6 ⟨rfl,k15,e6,z6⟩;generalize glu n x st=out at *;have hf1:∃oa n c,f5= .slice oa n c:=by obtain⟨oa,n,c,rfl,_⟩:=hf5;exact⟨_,_,_,rfl⟩
            obtain⟨fa,fn,fc,rfl⟩:=hf1;have hl1:∃oa n c,l5= .slice oa n c:=by obtain⟨oa,n,c,rfl,_⟩:=hl5;exact⟨_,_,_,rfl⟩
            obtain⟨la,ln,lc,rfl⟩:=hl1;have R5:=R3.sub a5 e5 ho5;have z5:=e5.size;have q6:=(q6.ext e5 (R3.loc _ hLp)).ext0 e6;refine RW.op0 rfl rfl rfl (OpX.storeBlk H.sz186 rfl rfl k15 (by first|rfl|(simp;done)|(simp;omega)) (by first|decide|exact of_decide_eq_true rfl|(simp;done)|(simp;omega)) (by first|decide|simp[Value.oneCell'])) ?_;rintro _ h7 ⟨rfl,k15,x7,z7⟩;have k15:Blk h7 h5.size 186 [.bool out.1.null,.slice fa fn fc,.slice la ln lc]:=k15;have e57:Ext0 h5 h7:=Ext0.only e6 x7 (Nat.le_refl _);have q6:=q6.ext x7 (by show ¬_=_;omega);have R7:=R5.ext0 e57;have hf7:SlR .bool h7 (ruQ O rb vs5 vb L2) _ out.1.first:=SlR.mv hf5 (Mv.ext0 e57)
            have hl7:SlR .bool h7 (ruQ O rb vs5 vb L2) _ out.1.last:=SlR.mv hl5 (Mv.ext0 e57);refine xd [0,2,4,6,7,16,20,138,166] rfl ?_;refine xr Tryz.func106 rfl ?_;refine xp rfl (OpP.fieldAddr (off:=1) Tryz.underlying186 rfl rfl H.sz106 rfl) ?_;refine xp rfl (OpP.load H.ag106 rfl (k15.cell (i:=1) rfl)) ?_;refine xp rfl (OpP.fieldAddr (off:=2) Tryz.underlying186 rfl rfl H.sz106 rfl) ?_;refine xp rfl (OpP.load H.ag106 rfl (k15.cell (i:=2) rfl)) ?_;refine xp rfl (OpP.build (H.bd186_0_1_2 _ _ _ _ _ _ _) rfl) ?_;refine RW.op0 rfl rfl rfl (OpX.storeBlk H.sz186 rfl rfl q6 (by first|rfl|(simp;done)|(simp;omega)) (by first|decide|exact of_decide_eq_true rfl|(simp;done)|(simp;omega)) (by first|decide|simp[Value.oneCell'])) ?_;rintro _ h9 ⟨rfl,hk9,hx9,hz9⟩;refine xd [0,2,4,6,7,16,20,138,166] rfl ?_;have hk9:Blk h9 h1.size 186 [.bool true,.slice fa fn fc,.slice la ln lc]:=hk9;refine G.retC Tryz.func106 rfl (.cons (ResOk.rowN H.ag186 H.sz186 rfl (hk9.row) (by first|rfl|(simp;done)|(simp;omega))) (.nil)) ?_;have R9:=R7.put hx9 hLp;exact⟨_,rfl,R9.fin (p:=⟨true,out.1.first,out.1.last⟩) (hf7.mv (R7.putQ hx9 hLp)) (hl7.mv (R7.putQ hx9 hLp))⟩
          · have h6k':¬k=6:=kkR h6k;have hglu:glu n (.mk k s kids) st=(⟨true,nob n,nob n⟩,st):=by rw[glu];simp[h1k',h2k',h3k',hk45,h6k']
            rw[hglu];refine G.skip rfl ?_;refine G.blkEnd ?_;refine xra Tryz.func106 2 rfl ?_;refine xp rfl (OpP.build (H.bd186_0_1_2 _ _ _ _ _ _ _) rfl) ?_;refine RW.op0 rfl rfl rfl (OpX.storeBlk H.sz186 rfl rfl q6 (by first|rfl|(simp;done)|(simp;omega)) (by first|decide|exact of_decide_eq_true rfl|(simp;done)|(simp;omega)) (by first|decide|simp[Value.oneCell'])) ?_;rintro _ h9 ⟨rfl,hk9,hx9,hz9⟩;refine xd [0,2,4,6,7,20,138,166] rfl ?_;have hk9:Blk h9 h1.size 186 [.bool true,.slice (some ⟨h2.size,0,none⟩) n n,.slice (some ⟨h2.size,0,none⟩) n n]:=hk9;refine G.retC Tryz.func106 rfl (.cons (ResOk.rowN H.ag186 H.sz186 rfl (hk9.row) (by first|rfl|(simp;done)|(simp;omega))) (.nil)) ?_;have R9:=R3.put hx9 hLp
            have hnb:SlR .bool h3' (ruQ O rb vs vb L2) (.slice (some ⟨h2.size,0,none⟩) n n) (nob n):=OwE.read (h1:=fun _=>rfl) q7 (fun b hb k=>by
             rcases k with k|k|k
             · have:=hltM b k;omega
             · have:=hO b k;omega
             · rw[←hLe] at k;rcases k with k|k<;>omega)
            exact⟨_,rfl,R9.fin (p:=⟨true,nob n,nob n⟩) (hnb.mv (R3.putQ hx9 hLp)) (hnb.mv (R3.putQ hx9 hLp))⟩
       refine G.ite rfl rfl (fun h4k=>?_) (fun h4k=>?_)
       · have h4k':k=4:=by omega
         refine G.skip rfl ?_;exact st45 (decide ((k:Int)=4)) _ _ ⟨rfl,rfl,rfl,rfl,rfl,rfl,rfl,trivial⟩ rfl (by simp[h4k'])
       · have h4k':¬k=4:=kkR h4k;refine G.reg Tryz.func106 rfl ?_;refine xqd 2 [0,1,2,4,6,7,20,21,47,100,138] rfl ?_;exact st45 (decide ((k:Int)=5)) _ _ ⟨rfl,rfl,rfl,rfl,rfl,rfl,rfl,trivial⟩ rfl (by simp only[decide_eq_decide];omega)
theorem layR_ok:∀m,LayROk m:=by
 intro m
 induction m with
 |zero=>intro x h O rb vs vb vl w st n hsz;have:=szN_pos x;omega
 |succ m ih=>exact layR_kind ih
def eSet:Elt Nat:=.record 4 (by decide) encSet (fun _=>rfl) (fun x v hv=>by simp[encSet] at hv;rcases hv with rfl|rfl|rfl|rfl<;>rfl)
def RuRd (h:Heap) (O:Nat→Prop) (rb:Nat) (r:RuP):Prop :=
 ∃vs vb vl,¬O rb∧Blk h rb 184 [vs,vb,vl]∧SlR eSet h O vs r.sets∧SlR eRow h O vb r.behind∧SlR .bool h O vl r.last
theorem RuRd.mv {h h':Heap}{O O':Nat→Prop}{rb:Nat}{r:RuP}(k:RuRd h O rb r) (m:Mv O O' h h'):RuRd h' O' rb r:=by
 obtain⟨vs,vb,vl,ho,hk,h1,h2,h3⟩:=k;have hm:=m.block rb hk.lt ho;exact⟨vs,vb,vl,hm.2,hm.1.trans hk,h1.mv m,h2.mv m,h3.mv m⟩
theorem of_calls {x:Nd}{w:Value}(hx:NdAt h O (ndC x.kind x.set w) x) (hw:wfN x=true) (hsz:szN x≤500000) :
 CallsH Tryz.prog 78 #[.agg (ndC x.kind x.set w).toArray] h (Ret fun r h'=>∃rb,r= .pointer (some ⟨rb,0,none⟩)∧RuRd h' (fun b=>b<h.size) rb (ofP x)∧Ext0 h h'):=by
 have hcs:=cnt_sz x;have hx:=hx.mv (O':=fun b=>O b∨h.size≤b) ⟨Nat.le_refl _,fun b hb hn=>⟨rfl,fun k=>k.elim hn (fun k=>by omega)⟩⟩;refine CallsH.of Tryz.func78 rfl rfl ?_;refine xr Tryz.func78 rfl ?_;refine xo rfl (OpX.boxN rfl) ?_;rintro _ h1 ⟨rfl,k1,e1,z1⟩;have k1:Blk h1 h.size 153 (ndC x.kind x.set w):=k1;refine xqd 1 [0,1,2] rfl ?_;refine xr Tryz.func78 rfl ?_;refine xp rfl (OpP.loadRowN H.ag153 H.sz153 rfl k1.row (by first|rfl|(simp;done)|(simp;omega))) ?_;refine xo rfl (OpX.call (vs:=[_]) Tryz.func105 rfl H.nm105 rfl (CallsH.toX (count_ok _ (x:=x) (Nat.le_refl _) (by omega) (hx.ext0 e1)))) ?_;rintro _ h2 ⟨rfl,e2⟩;refine xp rfl (OpP.add64 rfl rfl ⟨by omega,by omega⟩) ?_;refine xqd 1 [0,1,2,3] rfl ?_;refine xr Tryz.func78 rfl ?_;refine xp rfl (OpP.build (H.bd78_ ) rfl) ?_;refine xo rfl (OpX.buildRec (cs:=[_,_,_,_]) Tryz.underlying181 H.el78 rfl rfl (by decide)) ?_;rintro _ _ ⟨rfl,rfl⟩;refine xp rfl (OpP.build (H.bd184_0 _ _ _) rfl) ?_;refine xo rfl (OpX.boxN rfl) ?_;rintro _ h4 ⟨rfl,k4,e4,z4⟩;have q3:OwR 4 encSet (h2.push (.cells #[.int .u64 0,.int .u64 0,.int .u64 0,.int .u64 0] 78)) 0 78 (.slice (some ⟨h2.size,0,none⟩) 1 1) [0]:=OwR.made1 (fun _=>rfl) h2 0 78 0 (Nat.zero_le _) (cs:=[.int .u64 0,.int .u64 0,.int .u64 0,.int .u64 0]) (by simp[encSet,encW0]);have e3:Ext0 h2 (h2.push (.cells #[.int .u64 0,.int .u64 0,.int .u64 0,.int .u64 0] 78)):=Ext.push _ _ _;have z3:(h2.push (.cells #[.int .u64 0,.int .u64 0,.int .u64 0,.int .u64 0] 78)).size=h2.size+1:=by simp
 generalize h2.push (.cells #[.int .u64 0,.int .u64 0,.int .u64 0,.int .u64 0] 78)=h3 at *;have k4:Blk h4 h3.size 184 [.slice (some ⟨h2.size,0,none⟩) 1 1,.slice none 0 0,.slice none 0 0]:=k4;have hz2:=e2.size;have e04:Ext0 h h4:=((e1.trans e2).trans e3).trans e4
 have a4:RuAt h4 (fun b=>b<h.size) h3.size (.slice (some ⟨h2.size,0,none⟩) 1 1) (.slice none 0 0) (.slice none 0 0) ([0],[]) :=
  ⟨k4,OwR.ext0 q3 e4,OwX.nil _ _ _ _ _,fun b _ hb=>(by cases hb),fun hb=>(by simp[Value.ownBlock] at hb;omega),fun hb=>(by cases hb)⟩
 have k1:=((k1.ext0 e2).ext0 e3).ext0 e4;have hn:cnt x+1≤1000000:=by omega
 generalize hnn:cnt x+1=n at *;have hnn':((cnt x:Nat):Int)+1=(n:Nat):=by omega
 rw[hnn'];refine xqd 1 [0,1,2,3,4] rfl ?_;refine G.seq rfl ?_;refine xrd Tryz.func78 1 [0,1,2,3,4,5] rfl ?_;refine G.block rfl rfl ?_;refine G.loop (σ:=Nat×Option Addr×Nat) (fun q=>[(3,.int .i64 (n:Nat)),(4,.pointer (some ⟨h3.size,0,none⟩)),(5,.int .i64 (q.1:Nat)),(1,.pointer (some ⟨h.size,0,none⟩))]) (fun q h'=>q.1≤n∧RuAt h' (fun b=>b<h.size) h3.size (.slice (some ⟨h2.size,0,none⟩) 1 1) (.slice q.2.1 q.1 q.2.2) (.slice none 0 0) ([0],List.replicate q.1 (nob n))∧Ext0 h h'∧Blk h' h.size 153 (ndC x.kind x.set w)∧h4.size≤h'.size∧(∀b,(Value.slice q.2.1 q.1 q.2.2).ownBlock=some b→h4.size≤b)) (fun q=>n-q.1) ((0,none,0)) rfl ⟨rfl,rfl,rfl,rfl,trivial⟩ ⟨Nat.zero_le _,a4,e04,k1,Nat.le_refl _,fun b hb=>(by cases hb)⟩ ?_;rintro⟨i,ba,bc⟩ g ⟨hi,ag,eg,kg,hgz,hvn⟩ ih
 try dsimp only
 dsimp only at hi ag hvn;have hown:=ag.ownB;refine G.seq rfl ?_;refine xrd Tryz.func78 3 [1,3,4,5,16] rfl ?_;refine G.ite rfl rfl (fun hlt=>?_) (fun hlt=>?_)
 · have hin:i<n:=by omega
   obtain⟨css,hc1,hc2,hc3⟩:=id ag.rows;simp only[List.length_replicate] at hc1 hc2
   have hrM1:¬(but (Value.slice ba i bc).ownBlock h3.size∨Array.size g≤h3.size):=by
    rintro(k|k)
    · exact(hown _ k.symm).1 rfl
    · have:=ag.blk.lt;omega
   have hlto:∀b,(but (Value.slice ba i bc).ownBlock b∨b=h3.size∨but (Value.slice (some ⟨h2.size,0,none⟩) 1 1).ownBlock b∨b<h.size)→b<g.size:=by
    rintro b (k|k|k|k)
    · exact(hown b k.symm).2
    · have:=ag.blk.lt;omega
    · exact(ag.ownS b k.symm).2
    · have:=eg.size;omega
   refine G.skip rfl ?_;refine G.seq rfl ?_;refine G.block rfl rfl ?_;refine G.draw (fun b=>but (Value.slice ba i bc).ownBlock b∨Array.size g≤b) (fun i=>Nat.blt i 11) (sz:=12) (listed:= #[false,false,false,false,false,false,false,false,false,false,false,false]) Tryz.func78 H.mixed rfl rfl rfl ?_;refine xtq 0 1 (by kernel_rfl) rfl ?_;refine xtq 1 3 (by kernel_rfl) rfl ?_;refine xtq 2 7 (by kernel_rfl) rfl ?_;refine xtp 3 15 (by kernel_rfl) rfl (fun h' e=>OpP.fieldAddr (off:=1) Tryz.underlying184 rfl rfl H.sz182 rfl) ?_;refine xtp 4 31 (by kernel_rfl) rfl (fun h' e=>OpP.load H.ag182 rfl (e.cell hrM1 (ag.blk.cell (i:=1) rfl))) ?_;refine xtq 5 63 (by kernel_rfl) rfl ?_;refine xto 6 127 (by kernel_rfl) rfl (OpX.makeOnes Tryz.underlying106 H.el4 H.zr4 rfl rfl rfl (by omega) (by decide)) ?_;rintro _ g5 ⟨rfl,k5,e5⟩;refine⟨fun _=>e5.mono (fun _ _ k=>k.elim),?_⟩;have k5:OwE Value.bool g5 g.size 4 (.slice (some ⟨g.size,0,none⟩) n n) (nob n):=by unfold OwE nob;simpa using k5
   have z5:=e5.size;have hc2':OwnH g5 0 106 1 (.slice ba i bc) i css.flatten:=OwnH.ext0' hc2 e5;refine xto 7 255 (by kernel_rfl) rfl (OpX.buildOnes (us:=[_]) Tryz.underlying182 H.el106 rfl rfl (by decide) (by simp[Value.oneCell'])) ?_;rintro _ _ ⟨rfl,rfl⟩;refine⟨fun _=>by first|exact Ext.push _ _ _|assumption,?_⟩;refine xto 8 511 (by kernel_rfl) rfl (OpX.appendNew Tryz.underlying182 H.el106 rfl rfl (hc2') rfl rfl (by first|decide|simp[Value.oneCell']) (by omega) (by decide) (by omega)) ?_;rintro v2 g6 ⟨ho6,hx6,hx6',hv6⟩;refine⟨fun _=>hx6'.mono (fun _ _ k=>.inl k),?_⟩;obtain⟨oa2,c2,rfl,_⟩:=ho6.open
   have hrow6:OwX eRow (fun b=>b=h3.size∨but (Value.slice (some ⟨h2.size,0,none⟩) 1 1).ownBlock b∨b<h.size) g6 0 106 (.slice oa2 (i+1) c2) (List.replicate i (nob n)++[nob n]) :=
    OwX.pushed (e:=eRow) (h:=g5) (v:=.slice ba i bc) (css:=css) (cs:=[.slice (some ⟨g.size,0,none⟩) n n]) (by simpa using hc1) (fun j cs y a b=>eRow.mv (hc3 j cs y a b) (Mv.ext0 e5)) (by rw[List.length_replicate];exact ho6) hx6 hv6
     ⟨_,rfl,OwE.read (h1:=fun _=>rfl) k5 (fun b hb k=>by have:=hlto b k;omega)⟩
   rw[←List.replicate_succ'] at hrow6;have z6:=hx6.size;refine xto 9 1023 (by kernel_rfl) rfl (OpP.toX (OpP.nilCheck rfl)) ?_;rintro _ hq_ ⟨rfl,hqe_⟩;replace hqe_:=hqe_.symm;subst hqe_;refine⟨fun _=>Ext.refl _ _,?_⟩;refine xtp 10 2047 (by kernel_rfl) rfl (fun h' e=>OpP.fieldAddr (off:=1) Tryz.underlying184 rfl rfl H.sz182 rfl) ?_;refine xt0 11 4095 (by kernel_rfl) rfl (OpX.storeOne H.sz182 rfl rfl ((ag.blk.ext0 e5).ext hx6 (fun k=>(hown _ k.symm).1 rfl)) (by first|decide|exact of_decide_eq_true rfl|(simp;done)|(simp;omega)) rfl) ?_;rintro _ g7 ⟨rfl,k7,x7,z7⟩;refine⟨fun hk=>(nomatch hk),?_⟩;have k7:Blk g7 h3.size 184 [.slice (some ⟨h2.size,0,none⟩) 1 1,.slice oa2 (i+1) c2,.slice none 0 0]:=k7
   have a7:RuAt g7 (fun b=>b<h.size) h3.size (.slice (some ⟨h2.size,0,none⟩) 1 1) (.slice oa2 (i+1) c2) (.slice none 0 0) ([0],List.replicate (i+1) (nob n)) :=
    ⟨k7,OwnH.ext x7 (OwnH.ext hx6 (OwnH.ext0' ag.sets e5) (fun b hb k=>ag.apart b hb k.symm)) (fun b hb (e:b=h3.size)=>(ag.ownS b hb).1 e),hrow6.mv2 x7 (fun b hb (e:b=h3.size)=>by
     rcases hv6 b hb with k|k
     · exact(hown b k).1 e
     · omega) (fun b _ k=>.inl k) (fun b _ k=>k),fun b hb hb2=>by
     have hbs:=(ag.ownS b hb).2
     rcases hv6 b hb2 with k|k
     · exact ag.apart b hb k
     · omega,ag.ns,fun hb=>by
     have:=ag.blk.lt
     rcases hv6 _ hb with k|k
     · exact(hown _ k).1 rfl
     · omega⟩
   have e07:Ext0 h g7:=⟨by have:=eg.size;omega,fun b hb k=>by
    rw[x7.block b (by have:=eg.size;omega) (by show ¬_=_;omega),hx6.block b (by have:=eg.size;omega) (fun k2=>by have:=hvn b k2.symm;omega),e5.block b (by have:=eg.size;omega) (fun k=>k)];exact eg.block b hb k⟩
   refine RD.done (by kernel_rfl) ?_;refine xu [1,3,4,5,16] rfl ?_;refine G.blkEnd ?_;refine G.reg Tryz.func78 rfl ?_;refine xqp 1 rfl rfl (OpP.add64 rfl rfl ⟨by omega,by omega⟩) ?_;refine xqd 1 [1,3,4,5,16] rfl ?_
   exact ih (i+1,oa2,c2) _ _ ⟨rfl,rfl,rfl,rfl,trivial⟩ ⟨hin,a7,e07,((kg.ext0 e5).ext hx6 (fun k2=>by have:=hvn _ k2.symm;omega)).ext x7 (by show ¬_=_;omega),by omega,fun b hb=>by
    rcases hv6 b hb with k|k
    · exact hvn b k
    · omega⟩ (by show n-(i+1)<n-i;omega)
 · obtain rfl:i=n:=by omega
   have hruok:RuOk i ([0],List.replicate i (nob i)):=⟨by simp,fun b hb=>by rw[(List.mem_replicate.1 hb).2];exact nob_len _⟩
   have hvs:∀b,(Value.slice (some ⟨h2.size,0,none⟩) 1 1).ownBlock=some b→b=h2.size:=fun b hb=>by simp[Value.ownBlock] at hb;omega
   have hnd:NdAt g (ruM h3.size (.slice (some ⟨h2.size,0,none⟩) 1 1) (.slice ba i bc)) (ndC x.kind x.set w) x:=hx.mv ⟨eg.size,fun b hb hn=>⟨eg.block b hb (fun k=>k),by
    rintro(k|k|k)
    · omega
    · have:=hvs b k.symm;omega
    · have:=hvn b k.symm;omega⟩⟩
   refine G.exit rfl rfl ?_;refine xra Tryz.func78 1 rfl ?_;refine xp rfl (OpP.loadRowN H.ag153 H.sz153 rfl kg.row (by first|rfl|(simp;done)|(simp;omega))) ?_;refine xqm 1 rfl ?_;refine xo rfl (OpX.call (vs:=[_,_,_]) Tryz.func106 rfl H.nm106 rfl (CallsH.toX (layR_ok (szN x) (x:=x) (st:=([0],List.replicate i (nob i))) (n:=i) (Nat.le_refl _) ag (fun b k=>by have:=eg.size;omega) hnd hw hruok (by show 1+cnt x≤i;omega) hn))) ?_;rintro _ g8 ⟨vs8,f8,l8,rfl,a8,hf8,hl8,e8,ho8⟩;refine xo rfl (OpX.allocN H.zr186) ?_;rintro _ g9 ⟨rfl,k6,e9,z9⟩;have hglu:=glu_ok i x ([0],List.replicate i (nob i)) hruok;have hofe:ofP x=⟨(glu i x ([0],List.replicate i (nob i))).2.1,(glu i x ([0],List.replicate i (nob i))).2.2.set 0 (glu i x ([0],List.replicate i (nob i))).1.first,(glu i x ([0],List.replicate i (nob i))).1.last.set 0 (glu i x ([0],List.replicate i (nob i))).1.null⟩:=by subst hnn;rfl
   rw[hofe];generalize glu i x ([0],List.replicate i (nob i))=out at *;obtain⟨fa,fn,fc,rfl⟩:∃oa n c,f8= .slice oa n c:=by obtain⟨oa,n,c,rfl,_⟩:=hf8;exact⟨_,_,_,rfl⟩
   obtain⟨la,ln,lc,rfl⟩:∃oa n c,l8= .slice oa n c:=by obtain⟨oa,n,c,rfl,_⟩:=hl8;exact⟨_,_,_,rfl⟩
   refine RW.op0 rfl rfl rfl (OpX.storeBlk H.sz186 rfl rfl k6 (by first|rfl|(simp;done)|(simp;omega)) (by first|decide|exact of_decide_eq_true rfl|(simp;done)|(simp;omega)) (by first|decide|simp[Value.oneCell'])) ?_;rintro _ g10 ⟨rfl,k6,x10,z10⟩;have k6:Blk g10 g8.size 186 [.bool out.1.null,.slice fa fn fc,.slice la ln lc]:=k6;have e810:Ext0 g8 g10:=Ext0.only e9 x10 (Nat.le_refl _);have a10:=a8.ext0 (O':=fun b=>b<h.size) e810 (fun _ _ k=>k);have hf10:=SlR.mv hf8 (Mv.ext0 e810);have hl10:=SlR.mv hl8 (Mv.ext0 e810);obtain⟨row0,hrow0⟩:∃r,out.2.2[0]? =some r:=⟨_,List.getElem?_eq_getElem (by have:=hglu.2.1.rows;omega)⟩
   obtain⟨gb,bc2,cs0,hvb,_,hgb2,hra,hfz,⟨w0,rfl,_⟩,hput⟩:=a10.rows.put hrow0;have hlen2:out.2.2.length=i:=hglu.2.1.rows;rw[hlen2] at hvb;cases hvb;have z8:=e8.size;have z810:=e810.size;have hgz8:h4.size≤g8.size:=by omega
   have hvn':h4.size≤gb:=hvn gb rfl;refine xd [1,3,4,5,6,16] rfl ?_;refine G.seq rfl ?_;refine G.draw (fun b=>Array.size g10≤b) (fun i=>Nat.blt i 7) (sz:=8) (listed:= #[false,false,false,false,false,false,false,false]) Tryz.func78 H.mixed rfl rfl rfl ?_;refine xtq 0 1 (by kernel_rfl) rfl ?_;refine xtq 1 3 (by kernel_rfl) rfl ?_;refine xtp 2 7 (by kernel_rfl) rfl (fun h' e=>OpP.fieldAddr (off:=1) Tryz.underlying184 rfl rfl H.sz182 rfl) ?_;refine xtp 3 15 (by kernel_rfl) rfl (fun h' e=>OpP.load H.ag182 rfl (e.old (a10.blk.cell (i:=1) rfl))) ?_;refine xtp 4 31 (by kernel_rfl) rfl (fun h' e=>OpP.fieldAddr (off:=1) Tryz.underlying186 rfl rfl H.sz106 rfl) ?_;refine xtp 5 63 (by kernel_rfl) rfl (fun h' e=>OpP.load H.ag106 rfl (e.old (k6.cell (i:=1) rfl))) ?_;refine xtp 6 127 (by kernel_rfl) rfl (fun h' e=>OpP.indexSlice Tryz.underlying182 H.sz106 rfl rfl 0 rfl rfl (by omega)) ?_;refine xt0 7 255 (by kernel_rfl) rfl (OpX.store H.sz106 rfl rfl rfl (hra 0 _ rfl) (hfz _)) ?_;rintro _ g11 ⟨rfl,hg11⟩;refine⟨fun hk=>(nomatch hk),?_⟩
   have hput:=hput 0 (.slice fa fn fc) out.1.first (by decide) ⟨_,rfl,SlR.less hf10 (fun b k=>by
    rcases k with k|k|k|k
    · exact .inl (.inr (.inr k))
    · exact .inl (.inl k)
    · exact .inl (.inr (.inl k))
    · exact .inr k)⟩
   have hput:OwX eRow (fun b=>b=h3.size∨but vs8.ownBlock b∨b<h.size) g11 0 106 (.slice (some ⟨gb,0,none⟩) i bc) (out.2.2.set 0 out.1.first):=by rw[hg11];exact hput
   have x11:Ext (fun b=>b=gb) g10 g11:=by rw[hg11];exact Ext.setC _ _ _ rfl
   have hgs:vs8.ownBlock≠some gb:=fun e=>a10.apart gb e rfl
   have hgr:gb≠h3.size:=fun e=>a10.nb (by subst e;rfl)
   have a11:RuAt g11 (fun b=>b<h.size) h3.size vs8 (.slice (some ⟨gb,0,none⟩) i bc) (.slice none 0 0) (out.2.1,out.2.2.set 0 out.1.first) :=
    ⟨a10.blk.ext x11 (by show ¬_=_;omega),OwnH.ext x11 a10.sets (fun b hb e=>hgs (by subst e;exact hb)),hput,a10.apart,a10.ns,a10.nb⟩
   have z11:=x11.size;have hn6:¬g8.size=gb:=by have:=(a8.ownB gb rfl).2;omega
   have k6:=k6.ext x11 hn6;have hl11:=SlR.less (Q':=fun b=>b=gb) hl10 (fun b k=>.inl (.inr (.inr (by subst k;rfl))));have hl11:=hl11.mv (Mv.ofExt x11 (O':=fun b=>b=gb) (fun b _ k=>⟨k,k⟩));obtain⟨hll,hlrow,hlm⟩:=SlR.row hl11;have hllen:=hglu.1.last;have hone:∀u∈out.1.last.map Value.bool,u.oneCell'=true:=fun u hu=>by simp at hu;rcases hu with ⟨_,rfl⟩|⟨_,rfl⟩<;>rfl
   refine RD.done (by kernel_rfl) ?_;refine xu [1,3,4,5,6,16] rfl ?_;refine xra Tryz.func78 1 rfl ?_;refine xp rfl (OpP.fieldAddr (off:=2) Tryz.underlying186 rfl rfl H.sz106 rfl) ?_;refine xp rfl (OpP.load H.ag106 rfl (k6.cell (i:=2) rfl)) ?_;refine xo rfl (OpX.append Tryz.underlying106 H.el4 rfl rfl (OwnH.nil g11 g11.size 4 1) (by simp[hll]) hlrow hone (by simp only[maxLen];omega) (by omega) (by omega)) ?_;rintro wl g12 ⟨ho12,hx12,-,hv12⟩;have ho12':OwnH g12 g11.size 4 1 wl ln (out.1.last.map Value.bool):=by simpa using ho12
   have e12:Ext0 g11 g12:=ext_but_none hx12;obtain⟨oal,cl,rfl,_⟩:=ho12'.open;have z12:=e12.size;refine xqp 1 rfl rfl (OpP.fieldAddr (off:=2) Tryz.underlying184 rfl rfl H.sz106 rfl) ?_;refine RW.op0 rfl rfl rfl (OpX.storeOne H.sz106 rfl rfl (a11.blk.ext0 e12) (by first|decide|exact of_decide_eq_true rfl|(simp;done)|(simp;omega)) rfl) ?_;rintro _ g13 ⟨rfl,k13,x13,z13⟩;have k13:Blk g13 h3.size 184 [vs8,.slice (some ⟨gb,0,none⟩) i bc,.slice oal ln cl]:=k13;have hr11:=a11.blk.lt
   have hol:OwE Value.bool g13 g11.size 4 (.slice oal ln cl) out.1.last:=by
    unfold OwE;rw[hll];exact OwnH.ext x13 ho12' (fun b hb (e:b=h3.size)=>by have:=(OwnH.lt ho12' hb).1;omega)
   obtain⟨l0,hl0⟩:∃y,out.1.last[0]? =some y:=⟨_,List.getElem?_eq_getElem (by omega)⟩
   obtain⟨gl,cl',hvl,hgl1,hgl2,hlc,hlf,hlset⟩:=hol.at hl0;rw[hll] at hvl;cases hvl;have hlset:=hlset out.1.null;have hn63:¬g8.size=h3.size:=by have:=a8.blk.lt;omega
   have k6:=(k6.ext0 e12).ext x13 hn63;refine xd [1,3,4,5,6,16] rfl ?_;refine G.seq rfl ?_;refine G.draw (fun b=>Array.size g13≤b) (fun i=>Nat.blt i 7) (sz:=8) (listed:= #[false,false,false,false,false,false,false,false]) Tryz.func78 H.mixed rfl rfl rfl ?_;refine xtq 0 1 (by kernel_rfl) rfl ?_;refine xtq 1 3 (by kernel_rfl) rfl ?_;refine xtp 2 7 (by kernel_rfl) rfl (fun h' e=>OpP.fieldAddr (off:=2) Tryz.underlying184 rfl rfl H.sz106 rfl) ?_;refine xtp 3 15 (by kernel_rfl) rfl (fun h' e=>OpP.load H.ag106 rfl (e.old (k13.cell (i:=2) rfl))) ?_;refine xtp 4 31 (by kernel_rfl) rfl (fun h' e=>OpP.fieldAddr (off:=0) Tryz.underlying186 rfl rfl H.sz4 rfl) ?_;refine xtp 5 63 (by kernel_rfl) rfl (fun h' e=>OpP.load H.ag4 rfl (e.old (k6.cell (i:=0) rfl))) ?_;refine xtp 6 127 (by kernel_rfl) rfl (fun h' e=>OpP.indexSlice Tryz.underlying106 H.sz4 rfl rfl 0 rfl rfl (by omega)) ?_;refine xt0 7 255 (by kernel_rfl) rfl (OpX.store H.sz4 rfl rfl rfl hlc hlf) ?_;rintro _ g14 ⟨rfl,hg14⟩;refine⟨fun hk=>(nomatch hk),?_⟩;rw[←hg14] at hlset;have x14:Ext (fun b=>b=gl) g13 g14:=by rw[hg14];exact Ext.setC _ _ _ rfl
   refine RD.done (by kernel_rfl) ?_;refine xu [1,3,4,5,6,16] rfl ?_;refine xrd Tryz.func78 2 [1,2,3,4,5,6,16] rfl ?_;refine G.ret Tryz.func78 rfl rfl ?_
   have hlt11:∀b,ruM h3.size vs8 (.slice (some ⟨gb,0,none⟩) i bc) b→b<g11.size:=by
    rintro b (k|k|k)
    · omega
    · exact(a11.ownS b k.symm).2
    · exact(a11.ownB b k.symm).2
   have e1114:Ext (fun b=>b=h3.size) g11 g14:=⟨by have:=x14.size;omega,fun b hb hn=>by rw[x14.block b (by omega) (by omega),x13.block b (by omega) hn];exact e12.block b hb (fun k=>k)⟩
   have hss:∀b,vs8.ownBlock=some b→h.size≤b:=fun b hb=>by
    have:=eg.size
    rcases ho8 b hb with k|k
    · have:=hvs b k;omega
    · omega
   refine⟨_,rfl,h3.size,rfl,⟨vs8,_,_,by omega,k13.ext x14 (by show ¬_=_;omega),?_,?_,?_⟩,?_⟩
   · exact OwR.read (OwnH.raise (OwnH.ext e1114 a11.sets (fun b hb e=>(a11.ownS b hb).1 e)) hss) (fun b hb k=>by omega)
   · exact(a11.rows.mv2 e1114 (fun b hb (e:b=h3.size)=>(a11.ownB b hb).1 e) (fun b _ k=>.inl k) (fun b _ k=>k)).read2 (fun b hb k=>by have:=hvn b hb;omega) (fun b _ k=>.inr (.inr k))
   · exact OwE.read (h1:=fun _=>rfl) hlset (fun b hb k=>by omega)
   · have hzg:=eg.size;refine⟨by have:=x14.size;omega,fun b hb k=>?_⟩;rw[e1114.block b (by omega) (by omega),x11.block b (by omega) (by omega),e810.block b (by omega) (fun k=>k),e8.block b (by omega) ?_]
     · exact eg.block b hb k
     · rintro(k|k|k)
       · omega
       · have:=hvs b k.symm;omega
       · have:=hvn b k.symm;omega
theorem startR_calls (hr:RuRd h O rb r) (hok:RuleOk r n) (hn:n≤1000000) :
 CallsH Tryz.prog 79 #[.pointer (some ⟨rb,0,none⟩)] h (Ret fun v h'=>OwE Value.bool h' h.size 4 v (startR r)∧Ext0 h h'):=by
 obtain⟨vs,vb,vl,ho,hk,h1,h2,h3⟩:=hr;obtain⟨sa,sn,sc,rfl,hs1,_⟩:=h1;have hsl:=hok.sets;have hsp:=hok.pos;refine CallsH.of Tryz.func79 rfl rfl ?_;refine xrd Tryz.func79 1 [0,2] rfl ?_;refine xra Tryz.func79 2 rfl ?_;refine xp rfl (OpP.fieldAddr (off:=0) Tryz.underlying184 rfl rfl H.sz181 rfl) ?_;refine xp rfl (OpP.load H.ag181 rfl (hk.cell (i:=0) rfl)) ?_;refine xp rfl (OpP.lenSlice Tryz.underlying181 rfl) ?_;refine xo rfl (OpX.makeOnes Tryz.underlying106 H.el4 H.zr4 rfl rfl rfl (by omega) (by decide)) ?_;rintro _ g1 ⟨rfl,k1,e1⟩;have k1:OwE Value.bool g1 h.size 4 (.slice (some ⟨h.size,0,none⟩) sn sn) (nob r.sets.length):=by unfold OwE nob;rw[hs1];simpa using k1
 obtain⟨g',c',hv',_,_,hcell,hfz,hset⟩:=k1.at (i:=0) (x:=false) (by unfold nob;rw[List.getElem?_replicate,if_pos (by omega)]);rw[nob_len,hs1] at hv';cases hv';have hset:=hset true;refine xqd 1 [0,2,3] rfl ?_;refine xra Tryz.func79 1 rfl ?_;refine xp rfl (OpP.indexSlice Tryz.underlying106 H.sz4 rfl rfl 0 rfl rfl (by omega)) ?_;refine RW.op0 rfl rfl rfl (OpX.store H.sz4 rfl rfl rfl hcell hfz) ?_;rintro _ g2 ⟨rfl,hg2⟩;rw[←hg2] at hset;refine xd [0,2,3] rfl ?_;refine xrd Tryz.func79 2 [0,2,3] rfl ?_;refine G.ret Tryz.func79 rfl rfl ?_;exact⟨_,rfl,hset,Ext0.only e1 (by rw[hg2];exact Ext.setC _ _ _ rfl:Ext (fun b=>b=h.size) g1 g2) (Nat.le_refl _)⟩
theorem anyR_calls (ha:SlR .bool h O v a) (hn:a.length≤1000000) :
 CallsH Tryz.prog 80 #[v] h (Ret fun r h'=>r= .bool (anyR a)∧h'=h):=by
 obtain⟨oa,na,ca,rfl,hsa⟩:=ha.open;have hna:=hsa.len;refine CallsH.of Tryz.func80 rfl rfl ?_;refine xrd Tryz.func80 1 [0,2] rfl ?_;refine G.seq rfl ?_;refine xrd Tryz.func80 1 [0,2,3] rfl ?_;refine G.block rfl rfl ?_;refine G.loop (σ:=Nat) (fun i=>[(0,.slice oa na ca),(3,.int .i64 (i:Nat))]) (fun i h'=>i≤na∧h'=h∧anyR (a.drop i)=anyR a) (fun i=>na-i) (0) rfl ⟨rfl,rfl,trivial⟩ ⟨Nat.zero_le _,rfl,rfl⟩ ?_;rintro i g ⟨hi,rfl,hcon⟩ ih;refine G.seq rfl ?_;refine xra Tryz.func80 2 rfl ?_;refine xp rfl (OpP.lenSlice Tryz.underlying106 rfl) ?_;refine xqd 1 [0,3,7] rfl ?_;refine G.ite rfl rfl (fun hlt=>?_) (fun hlt=>?_)
 · obtain⟨ba,oo,x,hoa,_,hx,hcx⟩:=hsa.at (show i<na by omega)
   have hd:a.drop i=x::a.drop (i+1):=by
    obtain⟨hi',rfl⟩:=List.getElem?_eq_some_iff.1 hx;exact List.drop_eq_getElem_cons hi'
   rw[hd] at hcon;simp only[anyR,List.any_cons,id] at hcon;refine G.skip rfl ?_;refine G.seq rfl ?_;refine G.block rfl rfl ?_;refine xra Tryz.func80 2 rfl ?_;refine xp rfl (OpP.indexSlice Tryz.underlying106 H.sz4 rfl rfl i rfl hoa (by omega)) ?_;refine xp rfl (OpP.load H.ag4 rfl hcx) ?_;refine xd [0,3,7,13] rfl ?_;refine G.cond rfl rfl (fun hb=>?_) (fun hb=>?_)
   · subst hb;refine xrd Tryz.func80 1 [0,2,3,7,13] rfl ?_;refine G.ret Tryz.func80 rfl rfl ?_;exact⟨_,rfl,by rw[show anyR a=true by rw[anyR,←hcon];rfl];rfl,rfl⟩
   · subst hb;refine G.skip rfl ?_;refine G.blkEnd ?_;refine G.reg Tryz.func80 rfl ?_;refine xqp 1 rfl rfl (OpP.add64 rfl rfl ⟨by omega,by omega⟩) ?_;refine xqd 1 [0,3,7,13] rfl ?_;exact ih (i+1) _ _ ⟨rfl,rfl,trivial⟩ ⟨by omega,rfl,by rw[anyR,anyR,←hcon];rfl⟩ (by omega)
 · have hd:a.drop i=[]:=List.drop_of_length_le (by omega);rw[hd] at hcon;refine G.exit rfl rfl ?_;refine xrd Tryz.func80 1 [0,2,3,7] rfl ?_;refine G.ret Tryz.func80 rfl rfl ?_;exact⟨_,rfl,by rw[←hcon];rfl,rfl⟩
theorem endsR_calls {Oa:Nat→Prop}(hr:RuRd h O rb r) (hok:RuleOk r n) (ha:SlR .bool h Oa v a) (hal:a.length=r.sets.length) (hn:n≤1000000) :
 CallsH Tryz.prog 81 #[.pointer (some ⟨rb,0,none⟩),v] h (Ret fun u h'=>u= .bool (endsR r a)∧h'=h):=by
 obtain⟨vs,vb,vl,ho,hk,h1,h2,h3⟩:=hr;obtain⟨la,ln,lc,rfl,hsl⟩:=h3.open;obtain⟨oa,na,ca,rfl,hsa⟩:=ha.open;have hna:=hsa.len;have hln:=hsl.len;have hss:=hok.sets;have hll:=hok.last;refine CallsH.of Tryz.func81 rfl rfl ?_;refine xrd Tryz.func81 1 [0,1,4] rfl ?_;refine G.seq rfl ?_;refine xrd Tryz.func81 1 [0,1,4,5] rfl ?_;refine G.block rfl rfl ?_;refine G.loop (σ:=Nat) (fun i=>[(0,.pointer (some ⟨rb,0,none⟩)),(1,.slice oa na ca),(5,.int .i64 (i:Nat))]) (fun i h'=>i≤na∧h'=h∧(List.zipWith (· && ·) (a.drop i) (r.last.drop i)).any id=endsR r a) (fun i=>na-i) (0) rfl ⟨rfl,rfl,rfl,trivial⟩ ⟨Nat.zero_le _,rfl,rfl⟩ ?_;rintro i g ⟨hi,rfl,hcon⟩ ih;refine G.seq rfl ?_;refine xra Tryz.func81 2 rfl ?_;refine xp rfl (OpP.lenSlice Tryz.underlying106 rfl) ?_;refine xqd 1 [0,1,5,9] rfl ?_;refine G.ite rfl rfl (fun hlt=>?_) (fun hlt=>?_)
 · obtain⟨ba,oo,x,hoa,_,hx,hcx⟩:=hsa.at (show i<na by omega);obtain⟨bl,ol,y,hol,_,hy,hcy⟩:=hsl.at (show i<ln by omega)
   have hd:a.drop i=x::a.drop (i+1):=by
    obtain⟨hi',rfl⟩:=List.getElem?_eq_some_iff.1 hx;exact List.drop_eq_getElem_cons hi'
   have hd2:r.last.drop i=y::r.last.drop (i+1):=by
    obtain⟨hi',rfl⟩:=List.getElem?_eq_some_iff.1 hy;exact List.drop_eq_getElem_cons hi'
   rw[hd,hd2] at hcon;simp only[List.zipWith_cons_cons,List.any_cons,id] at hcon;refine G.skip rfl ?_;refine G.seq rfl ?_;refine G.block rfl rfl ?_;refine G.seq rfl ?_;refine G.regTo1 [(24,.bool (x && y))] [(0,_),(1,_),(5,_),(9,_)] ⟨rfl,rfl,rfl,rfl,trivial⟩ Tryz.func81 rfl ?_ ?_
   · refine xqp 2 rfl rfl (OpP.indexSlice Tryz.underlying106 H.sz4 rfl rfl i rfl hoa (by omega)) ?_;refine xp rfl (OpP.load H.ag4 rfl hcx) ?_;refine xqm 1 rfl ?_;refine RW.split (d:=16) rfl (fun hg=>?_) (fun hg=>?_)
     · refine xqp 2 rfl rfl (OpP.fieldAddr (off:=2) Tryz.underlying184 rfl rfl H.sz106 rfl) ?_;refine xp rfl (OpP.load H.ag106 rfl (hk.cell (i:=2) rfl)) ?_;refine xqp 1 rfl rfl (OpP.indexSlice Tryz.underlying106 H.sz4 rfl rfl i rfl hol (by omega)) ?_;refine xp rfl (OpP.load H.ag4 rfl hcy) ?_;refine xqm 1 rfl ?_;refine RW.done rfl ?_;exact⟨rfl,at_bool rfl (by simp[hg]),rfl,rfl,rfl,rfl,trivial⟩
     · refine xqm 8 rfl ?_;refine RW.done rfl ?_;exact⟨rfl,at_bool rfl (by simp[hg]),rfl,rfl,rfl,rfl,trivial⟩
   · refine G.cond rfl rfl (fun hb=>?_) (fun hb=>?_)
     · refine xrd Tryz.func81 1 [0,1,4,5,9,24] rfl ?_;refine G.ret Tryz.func81 rfl rfl ?_;rw[hb] at hcon;exact⟨_,rfl,by rw[←hcon];rfl,rfl⟩
     · rw[hb,Bool.false_or] at hcon;refine G.skip rfl ?_;refine G.blkEnd ?_;refine G.reg Tryz.func81 rfl ?_;refine xqp 1 rfl rfl (OpP.add64 rfl rfl ⟨by omega,by omega⟩) ?_;refine xqd 1 [0,1,5,9,24] rfl ?_;exact ih (i+1) _ _ ⟨rfl,rfl,rfl,trivial⟩ ⟨by omega,rfl,hcon⟩ (by omega)
 · have hd:a.drop i=[]:=List.drop_of_length_le (by omega);rw[hd] at hcon;refine G.exit rfl rfl ?_;refine xrd Tryz.func81 1 [0,1,4,5,9] rfl ?_;refine G.ret Tryz.func81 rfl rfl ?_;exact⟨_,rfl,by rw[←hcon];rfl,rfl⟩
theorem andB_at (c:UInt8):∀(k:Nat) (out:List Bool) (sets:List Nat) (q:Nat) (o:Bool) (s:Nat),out[q]? =some o→sets[q]? =some s→(andB c k out sets)[q]? =some (o && decide (0<k+q) && s.testBit c.toNat)
 |k,[],sets,q,o,s,h,_=>by simp at h
 |k,_::out,[],q,o,s,_,h=>by simp at h
 |k,x::out,y::sets,0,o,s,h1,h2=>by simp at h1 h2;subst h1 h2;simp[andB]
 |k,x::out,y::sets,q+1,o,s,h1,h2=>by
  rw[andB];simp only[List.getElem?_cons_succ] at h1 h2 ⊢;rw[andB_at c (k+1) out sets q o s h1 h2,show k+1+q=k+(q+1) by omega]
theorem stepR_calls {Oa:Nat→Prop}(c:UInt8) (hr:RuRd h O rb r) (hok:RuleOk r n) (ha:SlR .bool h Oa v a) (hal:a.length=r.sets.length) (hn:n≤1000000) :
 CallsH Tryz.prog 82 #[.pointer (some ⟨rb,0,none⟩),v,.int .u8 (c.toNat:Nat)] h (Ret fun u h'=>OwE Value.bool h' h.size 4 u (stepR r a c)∧Ext0 h h'):=by
 obtain⟨vs,vb,vl,ho,hk,h1,h2,h3⟩:=hr;obtain⟨ba,bn,bc,rfl,hsb⟩:=h2.open;obtain⟨sa,sn,sc,rfl,hss⟩:=h1.open;obtain⟨oa,na,ca,rfl,hsa⟩:=ha.open;have hna:=hsa.len;have hbn:=hsb.len;have hsn:=hss.len;have hsl:=hok.sets;have hrows:=hok.rows;subst hna;refine CallsH.of Tryz.func82 rfl rfl ?_;refine xrd Tryz.func82 1 [0,1,2,6] rfl ?_;refine xra Tryz.func82 1 rfl ?_;refine xp rfl (OpP.lenSlice Tryz.underlying106 rfl) ?_;refine xo rfl (OpX.makeOnes Tryz.underlying106 H.el4 H.zr4 rfl rfl rfl (by omega) (by decide)) ?_;rintro _ h1 ⟨rfl,k1,e1⟩;have k1:OwE Value.bool h1 h.size 4 (.slice (some ⟨h.size,0,none⟩) a.length a.length) (nob a.length):=by unfold OwE nob;simpa using k1
 have hbl:∀b∈r.behind,(nob a.length).length≤b.length:=fun b hb=>by rw[hok.each b hb,nob_len];omega
 have hol:=orsB_len a r.behind (nob a.length) hbl;rw[nob_len] at hol;generalize htgt:orsB a r.behind (nob a.length)=tgt at hol;refine xqd 1 [0,1,2,6,7] rfl ?_;refine G.seq rfl ?_;refine xrd Tryz.func82 1 [0,1,2,6,7,8] rfl ?_;refine G.block rfl rfl ?_;refine G.loop (σ:=Nat×Value×List Bool) (fun q=>[(0,.pointer (some ⟨rb,0,none⟩)),(1,.slice oa a.length ca),(2,.int .u8 (c.toNat:Nat)),(7,q.2.1),(8,.int .i64 (q.1:Nat))]) (fun q h'=>q.1≤a.length∧Ext0 h h'∧OwE Value.bool h' h.size 4 q.2.1 q.2.2∧q.2.2.length=a.length∧orsB (a.drop q.1) (r.behind.drop q.1) q.2.2=tgt) (fun q=>a.length-q.1) ((0,_,nob a.length)) rfl ⟨rfl,rfl,rfl,rfl,rfl,trivial⟩ ⟨Nat.zero_le _,e1,k1,nob_len _,htgt⟩ ?_;rintro⟨i,ov,cur⟩ g ⟨hi,eg,hov,hcl,hcon⟩ ih
 try dsimp only
 dsimp only at hi hov hcl hcon;have hkg:=hk.ext0 eg;have hzg:=eg.size;refine G.seq rfl ?_;refine xra Tryz.func82 2 rfl ?_;refine xp rfl (OpP.lenSlice Tryz.underlying106 rfl) ?_;refine xqd 1 [0,1,2,7,8,16] rfl ?_;refine G.ite rfl rfl (fun hlt=>?_) (fun hlt=>?_)
 · have hia:i<a.length:=by omega
   obtain⟨b1,o1,x,hoa,_,hx,hcx⟩:=(hsa.mv (Mv.ext0 eg)).at hia;obtain⟨row,hrow⟩:∃row,r.behind[i]? =some row:=⟨_,List.getElem?_eq_getElem (by omega)⟩
   have hrl:=hok.each row (List.mem_of_getElem? hrow)
   have hd:a.drop i=x::a.drop (i+1):=by
    obtain⟨hi',rfl⟩:=List.getElem?_eq_some_iff.1 hx;exact List.drop_eq_getElem_cons hi'
   have hd2:r.behind.drop i=row::r.behind.drop (i+1):=by
    obtain⟨hi',rfl⟩:=List.getElem?_eq_some_iff.1 hrow;exact List.drop_eq_getElem_cons hi'
   rw[hd,hd2,orsB] at hcon;refine G.skip rfl ?_;refine G.seq rfl ?_;refine G.block rfl rfl ?_;refine xra Tryz.func82 2 rfl ?_;refine xp rfl (OpP.indexSlice Tryz.underlying106 H.sz4 rfl rfl i rfl hoa (by omega)) ?_;refine xp rfl (OpP.load H.ag4 rfl hcx) ?_;refine xd [0,1,2,7,8,16,22] rfl ?_;refine G.cond rfl rfl (fun hb=>?_) (fun hb=>?_)
   · rw[if_pos hb] at hcon;obtain⟨b2,o2,cs2,hba,_,hra,⟨w,rfl,hw⟩⟩:=(hsb.mv (Mv.ext0 eg)).get i row hrow;refine G.reg Tryz.func82 rfl ?_;refine xqp 3 rfl rfl (OpP.fieldAddr (off:=1) Tryz.underlying184 rfl rfl H.sz182 rfl) ?_;refine xp rfl (OpP.load H.ag182 rfl (hkg.cell (i:=1) rfl)) ?_;refine xqp 1 rfl rfl (OpP.indexSlice Tryz.underlying182 H.sz106 rfl rfl i rfl hba (by omega)) ?_;refine xp rfl (OpP.load H.ag106 rfl (hra 0 _ rfl)) ?_;refine xo rfl (OpX.call (vs:=[_,_]) Tryz.func107 rfl H.nm107 rfl (CallsH.toX (or_calls (OwE.read (O:=fun _=>False) (h1:=fun _=>rfl) hov (fun _ _ k=>k)) hw (by omega) (by omega)))) ?_;rintro w5 g5 ⟨ho5,e5⟩;refine xqd 1 [0,1,2,7,8,16,22] rfl ?_;refine G.blkEnd ?_;refine G.reg Tryz.func82 rfl ?_;refine xqp 1 rfl rfl (OpP.add64 rfl rfl ⟨by omega,by omega⟩) ?_;refine xqd 1 [0,1,2,7,8,16,22] rfl ?_;exact ih (i+1,w5,orB cur row) _ _ ⟨rfl,rfl,rfl,rfl,rfl,trivial⟩ ⟨hia,eg.trans e5,OwnH.lower ho5 (by omega),by show (orB cur row).length=_;simp[orB];omega,hcon⟩ (by show a.length-(i+1)<a.length-i;omega)
   · rw[if_neg (by rw[hb];decide)] at hcon;refine G.skip rfl ?_;refine G.blkEnd ?_;refine G.reg Tryz.func82 rfl ?_;refine xqp 1 rfl rfl (OpP.add64 rfl rfl ⟨by omega,by omega⟩) ?_;refine xqd 1 [0,1,2,7,8,16,22] rfl ?_;exact ih (i+1,ov,cur) _ _ ⟨rfl,rfl,rfl,rfl,rfl,trivial⟩ ⟨hia,eg,hov,hcl,hcon⟩ (by show a.length-(i+1)<a.length-i;omega)
 · have hd:a.drop i=[]:=List.drop_of_length_le (by omega);have hz:orsB [] (r.behind.drop i) cur=cur:=by simp[orsB]
   rw[hd,hz] at hcon;subst hcon;generalize hfin:andB c 0 cur r.sets=fin;have hfl:fin.length=a.length:=by rw[←hfin,andB_len _ _ _ _ (by omega)];exact hcl
   obtain⟨ova,ovc,rfl,_⟩:=(show OwnH g h.size 4 1 ov cur.length (cur.map Value.bool) from hov).open;refine G.exit rfl rfl ?_;refine G.seq rfl ?_;refine xrd Tryz.func82 1 [0,1,2,7,8,9,16] rfl ?_;refine G.block rfl rfl ?_;refine G.loop (σ:=Nat) (fun i=>[(0,.pointer (some ⟨rb,0,none⟩)),(1,.slice oa a.length ca),(2,.int .u8 (c.toNat:Nat)),(7,.slice ova cur.length ovc),(9,.int .i64 (i:Nat))]) (fun i h'=>i≤a.length∧Ext0 h h'∧OwE Value.bool h' h.size 4 (.slice ova cur.length ovc) (fin.take i++cur.drop i)) (fun i=>a.length-i) (0) rfl ⟨rfl,rfl,rfl,rfl,rfl,trivial⟩ ⟨Nat.zero_le _,eg,by simpa using hov⟩ ?_;rintro i g ⟨hi,eg,hov⟩ ih;have hkg:=hk.ext0 eg;have hzg:=eg.size;refine G.seq rfl ?_;refine xra Tryz.func82 2 rfl ?_;refine xp rfl (OpP.lenSlice Tryz.underlying106 rfl) ?_;refine xqd 1 [0,1,2,7,9,35] rfl ?_;refine G.ite rfl rfl (fun hlt=>?_) (fun hlt=>?_)
   · have hia:i<a.length:=by omega
     obtain⟨x,hx⟩:∃x,cur[i]? =some x:=⟨_,List.getElem?_eq_getElem (by omega)⟩
     obtain⟨s,hs⟩:∃s,r.sets[i]? =some s:=⟨_,List.getElem?_eq_getElem (by omega)⟩
     have hfa:=andB_at c 0 cur r.sets i x s hx hs;rw[hfin,Nat.zero_add] at hfa;obtain⟨hfi,hfv⟩:=List.getElem?_eq_some_iff.1 hfa;obtain⟨g',c',hv',hgb,_,hcell,hfz,hset⟩:=hov.at (by rw[mix_get hfl hia];exact hx);rw[mix_len hfl hcl hi,←hcl] at hv';cases hv';have hms:=mix_set hfl hcl hia;rw[hfv] at hms;have hset:=hset (x && decide (0<i) && s.testBit c.toNat);rw[hms] at hset
     have fin2:∀d,d=(x && decide (0<i) && s.testBit c.toNat)→∀ga gb,Ext0 g ga→gb=setC ga ⟨g',0+i*1,none⟩ (.bool d)→Ext0 h gb∧OwE Value.bool gb h.size 4 (.slice (some ⟨g',0,none⟩) cur.length ovc) (fin.take (i+1)++cur.drop (i+1)):=by
      rintro d rfl ga gb ea rfl;have hova:=hov.ext0 ea;obtain⟨g2',c2',hv2,_,_,_,_,hset2⟩:=hova.at (by rw[mix_get hfl hia];exact hx);rw[mix_len hfl hcl hi,←hcl] at hv2;cases hv2;have hset2:=hset2 (x && decide (0<i) && s.testBit c.toNat);rw[hms] at hset2;exact⟨Ext0.only (eg.trans ea) (Ext.setC (M:=fun b=>b=g') ga _ _ rfl) hgb,hset2⟩
     refine G.skip rfl ?_;refine G.seq rfl ?_;refine G.block rfl rfl ?_;refine G.reg Tryz.func82 rfl ?_;refine xqp 4 rfl rfl (OpP.indexSlice Tryz.underlying106 H.sz4 rfl rfl i rfl rfl (by omega)) ?_;refine xp rfl (OpP.load H.ag4 rfl hcell) ?_;refine xqm 1 rfl ?_;refine RW.split (d:=44) rfl (fun hg=>?_) (fun hg=>?_)
     · refine xqm 4 rfl ?_;refine RW.split (d:=48) rfl (fun hg2=>?_) (fun hg2=>?_)
       · have hg2':=of_decide_eq_true hg2;obtain⟨b3,o3,cs3,hsa3,_,hrow3,rfl⟩:=(hss.mv (Mv.ext0 eg)).get i s hs;refine xqp 2 rfl rfl (OpP.fieldAddr (off:=0) Tryz.underlying184 rfl rfl H.sz181 rfl) ?_;refine xp rfl (OpP.load H.ag181 rfl (hkg.cell (i:=0) rfl)) ?_;refine xqp 1 rfl rfl (OpP.indexSlice Tryz.underlying181 H.sz78 rfl rfl i rfl hsa3 (by omega)) ?_;refine xp rfl (OpP.loadRowN H.ag78 H.sz78 rfl hrow3 (by first|rfl|(simp;done)|(simp;omega))) ?_;refine xqm 1 rfl ?_;refine xo rfl (OpX.call (vs:=[_,_]) Tryz.func108 rfl H.nm108 rfl (CallsH.toX (hasR_calls s c))) ?_;rintro _ g5 ⟨rfl,e5⟩;obtain⟨g5',c5',hv5,_,_,hcell5,hfz5,_⟩:=(hov.ext0 e5).at (by rw[mix_get hfl hia];exact hx);rw[mix_len hfl hcl hi,←hcl] at hv5;cases hv5;refine xqp 1 rfl rfl (OpP.indexSlice Tryz.underlying106 H.sz4 rfl rfl i rfl rfl (by omega)) ?_;refine RW.op0 rfl rfl rfl (OpX.store H.sz4 rfl rfl rfl hcell5 hfz5) ?_;rintro _ g6 ⟨rfl,hg6⟩;refine xd [0,1,2,7,9,35] rfl ?_;refine G.blkEnd ?_;refine G.reg Tryz.func82 rfl ?_;refine xqp 1 rfl rfl (OpP.add64 rfl rfl ⟨by omega,by omega⟩) ?_;refine xqd 1 [0,1,2,7,9,35] rfl ?_;exact ih (i+1) _ _ ⟨rfl,rfl,rfl,rfl,rfl,trivial⟩ ⟨hia,fin2 _ (by rw[hg,decide_eq_true (show 0<i by omega)];rfl) g5 g6 e5 hg6⟩ (by omega)
       · have hg2':=of_decide_eq_false hg2;refine xqp 10 rfl rfl (OpP.indexSlice Tryz.underlying106 H.sz4 rfl rfl i rfl rfl (by omega)) ?_;refine RW.op0 rfl rfl rfl (OpX.store H.sz4 rfl rfl rfl hcell hfz) ?_;rintro _ g6 ⟨rfl,hg6⟩;refine xd [0,1,2,7,9,35] rfl ?_;refine G.blkEnd ?_;refine G.reg Tryz.func82 rfl ?_;refine xqp 1 rfl rfl (OpP.add64 rfl rfl ⟨by omega,by omega⟩) ?_;refine xqd 1 [0,1,2,7,9,35] rfl ?_;exact ih (i+1) _ _ ⟨rfl,rfl,rfl,rfl,rfl,trivial⟩ ⟨hia,fin2 _ (by rw[decide_eq_false (show ¬0<i by omega)];simp) g g6 (Ext.refl _ _) hg6⟩ (by omega)
     · refine xqp 14 rfl rfl (OpP.indexSlice Tryz.underlying106 H.sz4 rfl rfl i rfl rfl (by omega)) ?_;refine RW.op0 rfl rfl rfl (OpX.store H.sz4 rfl rfl rfl hcell hfz) ?_;rintro _ g6 ⟨rfl,hg6⟩;refine xd [0,1,2,7,9,35] rfl ?_;refine G.blkEnd ?_;refine G.reg Tryz.func82 rfl ?_;refine xqp 1 rfl rfl (OpP.add64 rfl rfl ⟨by omega,by omega⟩) ?_;refine xqd 1 [0,1,2,7,9,35] rfl ?_;exact ih (i+1) _ _ ⟨rfl,rfl,rfl,rfl,rfl,trivial⟩ ⟨hia,fin2 _ (by rw[hg];rfl) g g6 (Ext.refl _ _) hg6⟩ (by omega)
   · have hie:i=a.length:=by omega
     rw[List.take_of_length_le (by omega),List.drop_of_length_le (by omega),List.append_nil] at hov;refine G.exit rfl rfl ?_;refine xrd Tryz.func82 2 [0,1,2,6,7,9,35] rfl ?_;refine G.ret Tryz.func82 rfl rfl ?_;refine⟨_,rfl,?_,eg⟩;rw[stepR,htgt,hfin];exact hov
def eRu:Elt RuP:=⟨1,by decide,fun h O cs r=>∃rb,cs=[.pointer (some ⟨rb,0,none⟩)]∧RuRd h O rb r,fun h=>by obtain⟨rb,rfl,_⟩:=h;rfl,fun h=>by
 obtain⟨rb,rfl,_⟩:=h;intro u hu;simp at hu;subst hu;rfl,fun h m=>by
 obtain⟨rb,hc,hv⟩:=h;exact⟨rb,hc,hv.mv m⟩⟩
def rulesE:List By→Int
 | []=>0
 |s::r=>if (parseE s).2≠0 then (parseE s).2 else rulesE r
def rulesP (l:List By):Int:=if l.length=0∨64<l.length then 2 else if rulesE l≠0 then rulesE l else if 2000<totL l then 70 else 0
def rulesR (l:List By):List RuP:=l.map fun s=>ofP (parseE s).1
def RulesV (h h':Heap) (l:List By) (r:Value):Prop :=
 ∃v,r= .tuple #[v,.int .i64 (rulesP l)]∧(rulesP l=0→SlR eRu h' (fun b=>b<h.size) v (rulesR l))
theorem rules_calls {rv:Value}(hr:SlR eBy h (fun _=>False) rv rules) (hrl:∀s∈rules,s.length≤1000000) :
 CallsH Tryz.prog 54 #[rv] h (Ret fun r h'=>RulesV h h' rules r∧Ext0 h h'):=by
 obtain⟨oa,kn,kc,rfl,hsl⟩:=id hr.open;have hkn:=hsl.len;have hkc:=hsl.le;have hcap:=hsl.cap;generalize htgt:rulesE rules=tgt;refine CallsH.of Tryz.func54 rfl rfl ?_;refine xrd Tryz.func54 2 [0,2,3] rfl ?_;refine G.seq rfl ?_;refine G.seq rfl ?_;refine G.regTo1 [(16,.bool (decide (kn=0∨64<kn)))] [(0,_),(2,_),(3,_)] ⟨rfl,rfl,rfl,trivial⟩ Tryz.func54 rfl ?_ ?_
 · refine xqp 1 rfl rfl (OpP.lenSlice Tryz.underlying22 rfl) ?_;refine xqm 2 rfl ?_;refine RW.split (d:=12) rfl (fun hg=>?_) (fun hg=>?_)
   · refine xqm 4 rfl ?_;refine RW.done rfl ?_;exact⟨rfl,at_bool rfl (by have:=of_decide_eq_true hg;simp;omega),rfl,rfl,rfl,trivial⟩
   · refine xqp 1 rfl rfl (OpP.lenSlice Tryz.underlying22 rfl) ?_;refine xqm 2 rfl ?_;refine RW.done rfl ?_;exact⟨rfl,at_bool rfl (by have:=of_decide_eq_false hg;simp only[decide_eq_decide];omega),rfl,rfl,rfl,trivial⟩
 · refine G.ite rfl rfl (fun hbig=>?_) (fun hbig=>?_)
   · refine xrd Tryz.func54 2 [0,2,3,16] rfl ?_;refine G.ret Tryz.func54 rfl rfl ?_;have hp:rulesP rules=2:=by unfold rulesP;rw[if_pos (by omega)]
     exact⟨_,rfl,⟨_,by rw[hp];rfl,fun k=>by rw[hp] at k;cases k⟩,Ext.refl _ _⟩
   · have hp:rulesP rules=if rulesE rules≠0 then rulesE rules else if 2000<totL rules then 70 else 0:=by unfold rulesP;rw[if_neg (by omega)]
     rw[htgt] at hp;refine G.skip rfl ?_;refine xrd Tryz.func54 1 [0,2,3,4,16] rfl ?_;refine xrd Tryz.func54 1 [0,2,3,4,5,16] rfl ?_;refine G.seq rfl ?_;refine xrd Tryz.func54 1 [0,2,3,4,5,6,16] rfl ?_;refine G.block rfl rfl ?_;refine G.loop (σ:=Nat×Value) (fun q=>[(0,.slice oa kn kc),(4,q.2),(5,.int .i64 (totL (rules.take q.1):Nat)),(6,.int .i64 (q.1:Nat))]) (fun q h'=>q.1≤kn∧Ext0 h h'∧OwX eRu (fun b=>b<h.size) h' h.size 156 q.2 (rulesR (rules.take q.1))∧totL (rules.take q.1)≤200*q.1∧rulesE (rules.drop q.1)=tgt) (fun q=>kn-q.1) ((0,.slice none 0 0)) rfl ⟨rfl,rfl,rfl,rfl,trivial⟩ ⟨Nat.zero_le _,Ext.refl _ _,OwX.nil _ _ _ _ _,by simp[totL],htgt⟩ ?_;rintro⟨i,ov⟩ g ⟨hi,eg,hov,htot,hcon⟩ ih
     try dsimp only
     dsimp only at hi hov htot hcon;have hzg:=eg.size;refine G.seq rfl ?_;refine xra Tryz.func54 2 rfl ?_;refine xp rfl (OpP.lenSlice Tryz.underlying22 rfl) ?_;refine xqd 1 [0,4,5,6,20] rfl ?_;refine G.ite rfl rfl (fun hlt=>?_) (fun hlt=>?_)
     · obtain⟨s,hs⟩:∃s,rules[i]? =some s:=⟨_,List.getElem?_eq_getElem (by omega)⟩
       have hdr:rules.drop i=s::rules.drop (i+1):=by
        obtain⟨hi',rfl⟩:=List.getElem?_eq_some_iff.1 hs;exact List.drop_eq_getElem_cons hi'
       rw[hdr,rulesE] at hcon;obtain⟨oa',n',c',hv',_,_,_,hget⟩:=id (hr.ext0 eg);cases hv';obtain⟨b,o,cs,ha,hob,hrow,rfl⟩:=hget i s hs;refine G.skip rfl ?_;refine G.seq rfl ?_;refine G.block rfl rfl ?_;refine xra Tryz.func54 2 rfl ?_;refine xp rfl (OpP.indexSlice Tryz.underlying22 H.sz9 rfl rfl i rfl ha (by omega)) ?_;refine xp rfl (OpP.load H.ag9 rfl (hrow 0 _ rfl)) ?_;refine xo rfl (OpX.call (vs:=[_]) Tryz.func77 rfl H.nm77 rfl (CallsH.toX (parseR_calls s (hrl s (List.mem_of_getElem? hs))))) ?_;rintro _ g1 ⟨⟨w,rfl,hnd⟩,e01⟩;refine xqm 3 rfl ?_;refine xo rfl (OpX.allocN H.zr153) ?_;rintro _ g2 ⟨rfl,k9,e12,z12⟩;refine RW.op0 rfl rfl rfl (OpX.storeBlk H.sz153 rfl rfl k9 (by first|rfl|(simp;done)|(simp;omega)) (by first|decide|exact of_decide_eq_true rfl|(simp;done)|(simp;omega)) (NdAt.one hnd)) ?_;rintro _ g3 ⟨rfl,k9',e23,z23⟩;refine xqd 1 [0,4,5,6,7,8,20] rfl ?_;refine G.seq rfl ?_;refine xrd Tryz.func54 2 [0,4,5,6,7,8,20,32] rfl ?_;have k9':Blk g3 g1.size 153 (ndC (parseE s).1.kind (parseE s).1.set w):=k9';have e13:Ext0 g1 g3:=Ext0.only e12 e23 (Nat.le_refl _);have z01:=e01.size;have z13:=e13.size;refine G.ite rfl rfl (fun herr=>?_) (fun herr=>?_)
       · rw[if_pos (by exact herr)] at hcon;have hp':rulesP rules=(parseE s).2:=by rw[hp,←hcon,if_pos herr]
         refine xrd Tryz.func54 3 [0,2,3,4,5,6,7,8,20,32] rfl ?_;refine G.ret Tryz.func54 rfl rfl ?_;exact⟨_,rfl,⟨_,by rw[hp'];rfl,fun k=>by rw[hp'] at k;exact absurd k herr⟩,(eg.trans e01).trans e13⟩
       · have h0:(parseE s).2=0:=by simpa using herr
         rw[if_neg (by simpa using h0)] at hcon;have hsmall:=parseE_small h0;obtain⟨css,hc1,hc2,hc3⟩:=id hov;have hrl2:(rulesR (rules.take i)).length=i:=by simp[rulesR];omega
         refine G.skip rfl ?_;refine xra Tryz.func54 1 rfl ?_;refine xp rfl (OpP.loadRowN H.ag153 H.sz153 rfl k9'.row (by first|rfl|(simp;done)|(simp;omega))) ?_;refine xo rfl (OpX.call (vs:=[_]) Tryz.func78 rfl H.nm78 rfl (CallsH.toX (of_calls (hnd.ext0 e13) hsmall.2.1 (by omega)))) ?_;rintro _ g4 ⟨rb,rfl,hrd,e34⟩;have z34:=e34.size;have e04:Ext0 g g4:=(e01.trans e13).trans e34;refine xo rfl (OpX.buildOnes (us:=[_]) Tryz.underlying117 H.el156 rfl rfl (by decide) (by simp[Value.oneCell'])) ?_;rintro _ _ ⟨rfl,rfl⟩;refine xo rfl (OpX.appendNew Tryz.underlying117 H.el156 rfl rfl ((hc2.ext0' e04)) rfl rfl (by first|decide|simp[Value.oneCell']) (by omega) (by decide) (by omega)) ?_;rintro v2 g6 ⟨ho6,hx6,hx6',hv6⟩;have htk:rules.take (i+1)=rules.take i++[s]:=by rw[List.take_add_one,hs];rfl
         have hrt:rulesR (rules.take (i+1))=rulesR (rules.take i)++[ofP (parseE s).1]:=by rw[htk];simp[rulesR]
         have hown:∀b,ov.ownBlock=some b→h.size≤b∧b<g.size:=fun b hb=>hc2.lt hb
         have hrow6:OwX eRu (fun b=>b<h.size) g6 h.size 156 v2 (rulesR (rules.take (i+1))):=by
          rw[hrt]
          exact OwX.pushed (h:=g4) (v:=ov) (css:=css) (cs:=[.pointer (some ⟨rb,0,none⟩)]) hc1 (fun j cs y a b=>eRu.mv (hc3 j cs y a b) (Mv.ext0 e04)) ho6 hx6 hv6 ⟨rb,rfl,hrd.mv ⟨Nat.le_refl _,fun b hb hn=>⟨rfl,fun k=>hn (by
           rcases k with k|k
           · have:=hown b k.symm;omega
           · omega)⟩⟩⟩
         have htt:=totL_take hs
         have e06:Ext0 h g6:=⟨by have:=hx6.size;omega,fun b hb k=>by
          rw[hx6.block b (by omega) (fun k2=>by have:=hown b k2.symm;omega),e04.block b (by omega) (fun k=>k)];exact eg.block b hb k⟩
         obtain⟨oa',n',c',hv',_,_,_,hget⟩:=id (hr.ext0 e06);cases hv';obtain⟨b,o,cs,ha,hob,hrow,rfl⟩:=hget i s hs;have hv5:((totL (rules.take i):Nat):Int)+((bs s).size:Nat)=(totL (rules.take (i+1)):Nat):=by rw[bs_size s];omega
         have hbs:=bs_size s;refine xqd 1 [0,4,5,6,7,8,20,32] rfl ?_;refine G.reg Tryz.func54 rfl ?_;refine xqp 3 rfl rfl (OpP.indexSlice Tryz.underlying22 H.sz9 rfl rfl i rfl ha (by omega)) ?_;refine xp rfl (OpP.load H.ag9 rfl (hrow 0 _ rfl)) ?_;refine xp rfl (OpP.lenString Tryz.underlying9 rfl) ?_;refine xp rfl (OpP.add64 rfl rfl ⟨by omega,by omega⟩) ?_;refine xqd 1 [0,4,5,6,7,8,20,32] rfl ?_;refine G.blkEnd ?_;refine G.reg Tryz.func54 rfl ?_;refine xqp 1 rfl rfl (OpP.add64 rfl rfl ⟨by omega,by omega⟩) ?_;refine xqd 1 [0,4,5,6,7,8,20,32] rfl ?_;exact ih (i+1,v2) _ _ ⟨rfl,rfl,by rw[←hv5];rfl,rfl,trivial⟩ ⟨by show i+1≤kn;omega,e06,hrow6,by show totL (rules.take (i+1))≤200*(i+1);omega,hcon⟩ (by show kn-(i+1)<kn-i;omega)
     · have hie:i=rules.length:=by omega
       subst hie;rw[List.take_length] at hov htot;have hnil:rules.drop rules.length=[]:=List.drop_length;rw[hnil,rulesE] at hcon;subst hcon;rw[if_neg (by decide)] at hp;refine G.exit rfl rfl ?_;refine G.seq rfl ?_;refine xrd Tryz.func54 2 [0,4,5,6,20,47] rfl ?_;refine G.ite rfl rfl (fun hlong=>?_) (fun hlong=>?_)
       · rw[List.take_length] at hlong;have hp':rulesP rules=70:=by rw[hp,if_pos (by omega)]
         refine xrd Tryz.func54 2 [0,2,3,4,5,6,20,47] rfl ?_;refine G.ret Tryz.func54 rfl rfl ?_;exact⟨_,rfl,⟨_,by rw[hp'];rfl,fun k=>by rw[hp'] at k;cases k⟩,eg⟩
       · rw[List.take_length] at hlong;have hp':rulesP rules=0:=by rw[hp,if_neg (by omega)]
         refine G.skip rfl ?_;refine xrd Tryz.func54 3 [0,2,3,4,5,6,20,47] rfl ?_;refine G.ret Tryz.func54 rfl rfl ?_;exact⟨_,rfl,⟨_,by rw[hp'];rfl,fun _=>hov.read (fun b hb k=>by omega) (fun b _ k=>k)⟩,eg⟩
def refA (rs:List RuP) (s:By) (a:Int):Int×Int×Int:=if a<0∨(s.length:Int)<a then (0,-1,0) else refMatch rs (s.drop a.toNat)
def RsOk (rs:List RuP):Prop:=∀r∈rs,∃n,RuleOk r n∧n≤1000000
def refB (r:RuP) (ri:Nat) (now:List Bool) (k:Nat) (b:Int×Int×Int):Int×Int×Int:=if endsR r now=true∧(b.2.1<0∨b.1<k) then (k,ri,if b.2.2<k then (k:Int) else b.2.2) else (b.1,b.2.1,if b.2.2<k then (k:Int) else b.2.2)
theorem matchR_calls {rs:List RuP}{s:By}{a:Int}(hr:SlR eRu h O v rs) (hok:RsOk rs) (hrl:rs.length≤1000000) (hs:s.length≤1000000) :
 CallsH Tryz.prog 56 #[v,.string (bs s),.int .i64 a] h (Ret fun r h'=>r= .tuple #[.int .i64 (refA rs s a).1,.int .i64 (refA rs s a).2.1,.int .i64 (refA rs s a).2.2]∧Ext0 h h'):=by
 have hbs:=bs_size s;obtain⟨oa,rn,rc,rfl,hsl⟩:=hr.open;have hrn:=hsl.len;refine CallsH.of Tryz.func56 rfl rfl ?_;refine xrd Tryz.func56 3 [0,1,2,6,7,8] rfl ?_;refine xrd Tryz.func56 3 [0,1,2,6,7,8,9,10,11] rfl ?_;refine G.seq rfl ?_;refine G.seq rfl ?_;refine G.regTo1 [(22,.bool (decide (a<0∨(s.length:Int)<a)))] [(0,_),(1,_),(2,_),(6,_),(7,_),(8,_),(9,_),(10,_),(11,_)] ⟨rfl,rfl,rfl,rfl,rfl,rfl,rfl,rfl,rfl,trivial⟩ Tryz.func56 rfl ?_ ?_
 · refine xqm 3 rfl ?_;refine RW.split (d:=17) rfl (fun hg=>?_) (fun hg=>?_)
   · have hg':=of_decide_eq_true hg;refine xqm 5 rfl ?_;refine RW.done rfl ?_;exact⟨rfl,at_bool rfl (by simp[hg']),rfl,rfl,rfl,rfl,rfl,rfl,rfl,rfl,rfl,trivial⟩
   · have hg':=of_decide_eq_false hg;refine xqp 2 rfl rfl (OpP.lenString Tryz.underlying9 rfl) ?_;refine xqm 2 rfl ?_;refine RW.done rfl ?_;exact⟨rfl,at_bool rfl (by simp only[decide_eq_decide];omega),rfl,rfl,rfl,rfl,rfl,rfl,rfl,rfl,rfl,trivial⟩
 · refine G.ite rfl rfl (fun hz=>?_) (fun hz=>?_)
   · refine xrd Tryz.func56 3 [0,1,2,6,7,8,9,10,11,22] rfl ?_;refine G.ret Tryz.func56 rfl rfl ?_;rw[refA,if_pos hz];exact⟨_,rfl,rfl,Ext.refl _ _⟩
   · obtain⟨k0,rfl⟩:=Int.eq_ofNat_of_zero_le (show 0≤a by omega);have hk:k0≤s.length:=by omega
     have hma:refA rs s (k0:Nat)=refGs 0 rs (s.drop k0) (0,-1,0):=by rw[refA,if_neg hz];rfl
     rw[hma];generalize htgt:refGs 0 rs (s.drop k0) (0,-1,0)=tgt;refine G.skip rfl ?_;refine G.seq rfl ?_;refine xrd Tryz.func56 1 [0,1,2,6,7,8,9,10,11,12,22] rfl ?_;refine G.block rfl rfl ?_;refine G.loop (σ:=Nat×Int×Int×Int) (fun q=>[(0,.slice oa rn rc),(1,.string (bs s)),(2,.int .i64 (k0:Nat)),(9,.int .i64 q.2.1),(10,.int .i64 q.2.2.1),(11,.int .i64 q.2.2.2),(12,.int .i64 (q.1:Nat))]) (fun q h'=>Ext0 h h'∧q.1≤rn∧refGs q.1 (rs.drop q.1) (s.drop k0) q.2=tgt) (fun q=>rn-q.1) ((0,0,-1,0)) rfl ⟨rfl,rfl,rfl,rfl,rfl,rfl,rfl,trivial⟩ ⟨Ext.refl _ _,Nat.zero_le _,htgt⟩ ?_;rintro⟨i,b⟩ g ⟨eg,hi,hcon⟩ ih
     try dsimp only
     dsimp only at hi hcon;refine G.seq rfl ?_;refine xra Tryz.func56 2 rfl ?_;refine xp rfl (OpP.lenSlice Tryz.underlying117 rfl) ?_;refine xqd 1 [0,1,2,9,10,11,12,26] rfl ?_;refine G.ite rfl rfl (fun hlt=>?_) (fun hlt=>?_)
     · obtain⟨r,hri⟩:∃r,rs[i]? =some r:=⟨_,List.getElem?_eq_getElem (by omega)⟩
       obtain⟨n,hrok,hn⟩:=hok r (List.mem_of_getElem? hri)
       have hdr:rs.drop i=r::rs.drop (i+1):=by
        obtain⟨hi',rfl⟩:=List.getElem?_eq_some_iff.1 hri;exact List.drop_eq_getElem_cons hi'
       rw[hdr,refGs] at hcon;obtain⟨b1,o1,cs1,hoa,_,hrow,⟨rb,rfl,hrd⟩⟩:=(hsl.mv (Mv.ext0 eg)).get i r hri;refine G.skip rfl ?_;refine G.seq rfl ?_;refine G.block rfl rfl ?_;refine xra Tryz.func56 2 rfl ?_;refine xp rfl (OpP.indexSlice Tryz.underlying117 H.sz156 rfl rfl i rfl hoa (by omega)) ?_;refine xp rfl (OpP.load H.ag156 rfl (hrow 0 _ rfl)) ?_;refine xo rfl (OpX.call (vs:=[_]) Tryz.func79 rfl H.nm79 rfl (CallsH.toX (startR_calls hrd hrok hn))) ?_;rintro w1 g1 ⟨ho1,e1⟩;refine xqd 1 [0,1,2,9,10,11,12,13,26] rfl ?_;refine xrd Tryz.func56 2 [0,1,2,9,10,11,12,13,14,26] rfl ?_;refine G.block rfl rfl ?_;refine G.loop (σ:=Nat×Value×List Bool×Int×Int×Int) (fun q=>[(0,.slice oa rn rc),(1,.string (bs s)),(2,.int .i64 (k0:Nat)),(9,.int .i64 q.2.2.2.1),(10,.int .i64 q.2.2.2.2.1),(11,.int .i64 q.2.2.2.2.2),(12,.int .i64 (i:Nat)),(13,q.2.1),(14,.int .i64 (q.1:Nat))]) (fun q h'=>Ext0 h h'∧k0≤q.1∧q.1≤s.length∧OwE Value.bool h' h.size 4 q.2.1 q.2.2.1∧q.2.2.1.length=r.sets.length∧refGs (i+1) (rs.drop (i+1)) (s.drop k0) (refG r i (s.drop q.1) q.2.2.1 (q.1-k0) q.2.2.2)=tgt) (fun q=>s.length-q.1) ((k0,w1,startR r,b)) rfl ⟨rfl,rfl,rfl,rfl,rfl,rfl,rfl,rfl,rfl,trivial⟩ ⟨eg.trans e1,Nat.le_refl _,hk,OwnH.lower ho1 eg.size,startR_len r,by rw[Nat.sub_self];exact hcon⟩ ?_;rintro⟨j,nv,now,b⟩ g2 ⟨eg2,hkj,hj,hnv,hnl,hcon⟩ ih2
       try dsimp only
       dsimp only at hkj hj hnv hnl hcon;have hzg2:=eg2.size;have hnr:SlR .bool g2 (fun _=>False) nv now:=OwE.read (h1:=fun _=>rfl) hnv (fun _ _ k=>k);have hrs:=hrok.sets;have hjk:(j:Int)-(k0:Nat)=((j-k0:Nat):Int):=by omega
       obtain⟨b1,o1,cs1,hoa,_,hrow,⟨rb2,rfl,hrd⟩⟩:=(hsl.mv (Mv.ext0 eg2)).get i r hri;refine G.seq rfl ?_;refine xra Tryz.func56 1 rfl ?_;refine xo rfl (OpX.call (vs:=[_]) Tryz.func80 rfl H.nm80 rfl (CallsH.toX (anyR_calls hnr (by omega)))) ?_;rintro _ g3 ⟨rfl,hg3⟩;refine xd [0,1,2,9,10,11,12,13,14,36] rfl ?_;subst hg3;refine G.cond rfl rfl (fun hany=>?_) (fun hany=>?_)
       · refine G.skip rfl ?_;refine G.seq rfl ?_;refine G.block rfl rfl ?_;refine xra Tryz.func56 3 rfl ?_;refine xp rfl (OpP.sub64 rfl rfl ⟨by omega,by omega⟩) ?_;refine xp rfl (OpP.max2 rfl rfl) ?_;refine xqd 1 [0,1,2,9,10,11,12,13,14,36] rfl ?_;refine G.seq rfl ?_;refine G.seq rfl ?_;refine G.regTo1 [(60,.bool (decide (endsR r now=true∧(b.2.1<0∨b.1<((j-k0:Nat):Int)))))] [(0,_),(1,_),(2,_),(9,_),(10,_),(11,_),(12,_),(13,_),(14,_),(36,_)] ⟨rfl,rfl,rfl,rfl,rfl,rfl,rfl,rfl,rfl,rfl,trivial⟩ Tryz.func56 rfl ?_ ?_
         · refine xqp 2 rfl rfl (OpP.indexSlice Tryz.underlying117 H.sz156 rfl rfl i rfl hoa (by omega)) ?_;refine xp rfl (OpP.load H.ag156 rfl (hrow 0 _ rfl)) ?_;refine xqm 1 rfl ?_;refine xo rfl (OpX.call (vs:=[_,_]) Tryz.func81 rfl H.nm81 rfl (CallsH.toX (endsR_calls hrd hrok hnr hnl hn))) ?_;rintro _ g4 ⟨rfl,hg4⟩;subst hg4;refine xqm 1 rfl ?_;refine RW.split (d:=50) rfl (fun hg=>?_) (fun hg=>?_)
           · refine xqm 3 rfl ?_;refine RW.split (d:=53) rfl (fun hg2=>?_) (fun hg2=>?_)
             · have hg2':=of_decide_eq_true hg2;refine xqm 7 rfl ?_;refine RW.done rfl ?_;exact⟨rfl,at_bool rfl (by simp[hg,hg2']),rfl,rfl,rfl,rfl,rfl,rfl,rfl,rfl,rfl,rfl,trivial⟩
             · have hg2':=of_decide_eq_false hg2;refine xqp 2 rfl rfl (OpP.sub64 rfl rfl ⟨by omega,by omega⟩) ?_;refine xqm 4 rfl ?_;refine RW.done rfl ?_;exact⟨rfl,at_bool rfl (by simp only[hg,true_and,decide_eq_decide];omega),rfl,rfl,rfl,rfl,rfl,rfl,rfl,rfl,rfl,rfl,trivial⟩
           · refine xqm 10 rfl ?_;refine RW.done rfl ?_;exact⟨rfl,at_bool rfl (by simp[hg]),rfl,rfl,rfl,rfl,rfl,rfl,rfl,rfl,rfl,rfl,trivial⟩
         · generalize hb':refB r i now (j-k0) b=b' at *
           have fin:∀(_u:Unit) (h':Heap) (ρ':Env),Sub [(0,.slice oa rn rc),(1,.string (bs s)),(2,.int .i64 (k0:Nat)),(9,.int .i64 b'.1),(10,.int .i64 b'.2.1),(11,.int .i64 b'.2.2),(12,.int .i64 (i:Nat)),(13,nv),(14,.int .i64 (j:Nat))] ρ'→h'=g3→G Tryz.prog 56 Tryz.f56 [.code [1,1,0,0,1,0,0,1,1,0,0,1,0,0,1,0,1,1,1],.blk 3,.code [1,1,0,0,1,1,0,0,1,0,0,1,0,1,1,1],.loop [0,0,1,1,0,0,1,0,0,1,0,1,1,1],.blk 2,.blk 1,.code [1,1,0,0,1,0,1,1,1],.loop [0,0,1,0,1,1,1],.blk 0,.code [1,1,1,1]] ρ' h' (Ret fun r h'=>r= .tuple #[.int .i64 tgt.1,.int .i64 tgt.2.1,.int .i64 tgt.2.2]∧Ext0 h h'):=by
            rintro _u g4 ρ' hsub rfl;refine G.sub (ρ':=[(0,.slice oa rn rc),(1,.string (bs s)),(2,.int .i64 (k0:Nat)),(9,.int .i64 b'.1),(10,.int .i64 b'.2.1),(11,.int .i64 b'.2.2),(12,.int .i64 (i:Nat)),(13,nv),(14,.int .i64 (j:Nat))]) hsub ?_;refine G.seq rfl ?_;refine xra Tryz.func56 2 rfl ?_;refine xp rfl (OpP.lenString Tryz.underlying9 rfl) ?_;refine xqd 1 [0,1,2,9,10,11,12,13,14,68] rfl ?_;refine G.ite rfl rfl (fun hend=>?_) (fun hend=>?_)
            · have hje:j=s.length:=by omega
              have hd:s.drop j=[]:=List.drop_of_length_le (by omega);rw[hd,refG,if_neg (by rw[hany];decide)] at hcon;have hcon:refGs (i+1) (rs.drop (i+1)) (s.drop k0) b'=tgt:=by rw[←hb',←hcon];rfl
              refine G.exit rfl rfl ?_;refine G.blkEnd ?_;refine G.reg Tryz.func56 rfl ?_;refine xqp 1 rfl rfl (OpP.add64 rfl rfl ⟨by omega,by omega⟩) ?_;refine xqd 1 [0,1,2,9,10,11,12,13,14,68] rfl ?_;exact ih (i+1,b') _ _ ⟨rfl,rfl,rfl,rfl,rfl,rfl,rfl,trivial⟩ ⟨eg2,by show i+1≤rn;omega,hcon⟩ (by show rn-(i+1)<rn-i;omega)
            · have hje:j<s.length:=by omega
              have hd:s.drop j=s[j]::s.drop (j+1):=List.drop_eq_getElem_cons hje;rw[hd,refG,if_neg (by rw[hany];decide)] at hcon;have hcon:refGs (i+1) (rs.drop (i+1)) (s.drop k0) (refG r i (s.drop (j+1)) (stepR r now s[j]) (j-k0+1) b')=tgt:=by rw[←hb',←hcon];rfl
              refine G.skip rfl ?_;refine G.draw (fun b=>Array.size g4≤b) (fun i=>Nat.blt i 10) (sz:=10) (listed:= #[false,false,false,false,false,false,false,false,false,false]) Tryz.func56 H.mixed rfl rfl rfl ?_;refine xtq 0 1 (by kernel_rfl) rfl ?_;refine xtq 1 3 (by kernel_rfl) rfl ?_;refine xtp 2 7 (by kernel_rfl) rfl (fun h' e=>OpP.indexSlice Tryz.underlying117 H.sz156 rfl rfl i rfl hoa (by omega)) ?_;refine xtp 3 15 (by kernel_rfl) rfl (fun h' e=>OpP.load H.ag156 rfl (e.old (hrow 0 _ rfl))) ?_;refine xtq 4 31 (by kernel_rfl) rfl ?_;refine xtq 5 63 (by kernel_rfl) rfl ?_;refine xtq 6 127 (by kernel_rfl) rfl ?_;refine xtp 7 255 (by kernel_rfl) rfl (fun h' e=>OpP.indexStr Tryz.underlying9 rfl rfl j rfl (bs_at (List.getElem?_eq_getElem hje))) ?_;refine xto 8 511 (by kernel_rfl) rfl (OpX.call (vs:=[_,_,_]) Tryz.func82 rfl H.nm82 rfl (CallsH.toX (stepR_calls s[j] hrd hrok hnr hnl hn))) ?_;rintro w5 g5 ⟨ho5,e5⟩;refine⟨fun _=>e5.mono (fun _ _ k=>k.elim),?_⟩;refine xtq 9 1023 (by kernel_rfl) rfl ?_;refine RD.done (by kernel_rfl) ?_;refine xu [0,1,2,9,10,11,12,13,14,68] rfl ?_;refine G.blkEnd ?_;refine G.reg Tryz.func56 rfl ?_;refine xqp 1 rfl rfl (OpP.add64 rfl rfl ⟨by omega,by omega⟩) ?_;refine xqd 1 [0,1,2,9,10,11,12,13,14,68] rfl ?_;exact ih2 (j+1,w5,stepR r now s[j],b') _ _ ⟨rfl,rfl,rfl,rfl,rfl,rfl,rfl,rfl,rfl,trivial⟩ ⟨eg2.trans e5,by show k0≤j+1;omega,hje,OwnH.lower ho5 (by omega),stepR_len hrok hnl _,by show refGs _ _ _ (refG r i _ _ (j+1-k0) b')=tgt;rw[show j+1-k0=j-k0+1 by omega];exact hcon⟩ (by show s.length-(j+1)<s.length-j;omega)
           refine G.ite rfl rfl (fun hbest=>?_) (fun hbest=>?_)
           · have hb1:b'=(((j-k0:Nat):Int),(i:Int),if b.2.2<((j-k0:Nat):Int) then ((j-k0:Nat):Int) else b.2.2):=by rw[←hb',refB,if_pos hbest]
             subst hb1;refine G.reg Tryz.func56 rfl ?_;refine xqp 2 rfl rfl (OpP.sub64 rfl rfl ⟨by omega,by omega⟩) ?_;refine xqd 3 [0,1,2,9,10,11,12,13,14,36,60] rfl ?_;exact fin () _ _ ⟨rfl,rfl,rfl,by show some (Value.int _ _)=_;rw[←hjk],rfl,by rw[←hjk];rfl,rfl,rfl,rfl,trivial⟩ rfl
           · have hb1:b'=(b.1,b.2.1,if b.2.2<((j-k0:Nat):Int) then ((j-k0:Nat):Int) else b.2.2):=by rw[←hb',refB,if_neg hbest]
             subst hb1;refine G.skip rfl ?_;exact fin () _ _ ⟨rfl,rfl,rfl,rfl,rfl,by rw[←hjk];rfl,rfl,rfl,rfl,trivial⟩ rfl
       · rw[refG_none (by simpa using hany)] at hcon;refine G.exit rfl rfl ?_;refine G.blkEnd ?_;refine G.reg Tryz.func56 rfl ?_;refine xqp 1 rfl rfl (OpP.add64 rfl rfl ⟨by omega,by omega⟩) ?_;refine xqd 1 [0,1,2,9,10,11,12,13,14,36] rfl ?_;exact ih (i+1,b) _ _ ⟨rfl,rfl,rfl,rfl,rfl,rfl,rfl,trivial⟩ ⟨eg2,by show i+1≤rn;omega,hcon⟩ (by show rn-(i+1)<rn-i;omega)
     · have hd:rs.drop i=[]:=List.drop_of_length_le (by omega);rw[hd,refGs] at hcon;refine G.exit rfl rfl ?_;refine xrd Tryz.func56 6 [0,1,2,6,7,8,9,10,11,12,26] rfl ?_;refine G.ret Tryz.func56 rfl rfl ?_;exact⟨_,rfl,by rw[←hcon];rfl,eg⟩
theorem makeG_err:∀(l:List By) (i:Nat) (ss:List Ste) (t:List Nat),(∃q,makeG i l ss t= .inr q∧rulesE l=0)∨(makeG i l ss t= .inl (rulesE l)∧rulesE l≠0)
 | [],i,ss,t=>.inl ⟨_,rfl,rfl⟩
 |s::r,i,ss,t=>by
  rw[makeG,rulesE]
  by_cases h:(parseE s).2≠0
  · rw[if_pos h,if_pos h];exact .inr ⟨rfl,h⟩
  · rw[if_neg h,if_neg h];exact makeG_err r _ _ _
theorem make_rules (l:List By):(∃q,makeP l= .inr q∧rulesP l=0)∨(makeP l= .inl (rulesP l)∧rulesP l≠0):=by
 unfold makeP rulesP
 by_cases h:l.length=0∨64<l.length
 · rw[if_pos h,if_pos h];exact .inr ⟨rfl,by decide⟩
 · rw[if_neg h,if_neg h]
   rcases makeG_err l 0 [] [] with ⟨q,h1,h2⟩|⟨h1,h2⟩
   · rw[h1,if_neg (by simpa using h2)]
     by_cases hl:2000<totL l
     · refine .inr ⟨by simp[hl],by rw[if_pos hl];decide⟩
     · refine .inl ⟨(q.1++[⟨0,0,q.2,0⟩],q.1.length),by simp[hl],by rw[if_neg hl]⟩
   · rw[h1,if_pos h2];exact .inr ⟨rfl,h2⟩
theorem parse_of (h:rulesP rules=0):∀s∈rules,(parseE s).2=0:=by
 have key:∀l:List By,rulesE l=0→∀s∈l,(parseE s).2=0:=by
  intro l
  induction l with
  |nil=>intro _ s hs;cases hs
  |cons x r ih =>
   intro h s hs;rw[rulesE] at h
   by_cases hx:(parseE x).2≠0
   · rw[if_pos hx] at h;exact absurd h hx
   · rw[if_neg hx] at h
     rcases List.mem_cons.1 hs with rfl|hs
     · simpa using hx
     · exact ih h s hs
 unfold rulesP at h;split at h
 · cases h
 · split at h
   · rename_i h2;exact absurd h h2
   · rename_i h2;exact key rules (by simpa using h2)
theorem rules_wf (h:rulesP rules=0):∀x∈rules.map (fun s=>(parseE s).1),wfN x=true:=fun x hx=>by
 obtain⟨s,hs,rfl⟩:=List.mem_map.1 hx;exact(parseE_small (parse_of h s hs)).2.1
theorem rulesR_map (rules:List By):rulesR rules=(rules.map fun s=>(parseE s).1).map ofP:=by simp[rulesR]
theorem rules_ok (h:rulesP rules=0):RsOk (rulesR rules):=fun r hr=>by
 obtain⟨s,hs,rfl⟩:=List.mem_map.1 hr;have hsm:=parseE_small (parse_of h s hs);have:=cnt_sz (parseE s).1;exact⟨_,of_ok hsm.2.1,by omega⟩
theorem matchM_ref (h:rulesP rules=0) (s:By) (a:Int):matchM rules s a=((refA (rulesR rules) s a).1,(refA (rulesR rules) s a).2.1):=by
 rcases make_rules rules with ⟨⟨ss,st⟩,h1,_⟩|⟨_,h2⟩
 · have hm:=makeP_made h1;have hst:=hm.stl;unfold matchM refA matchA;rw[h1];simp only
   by_cases ha:a<0∨(s.length:Int)<a
   · rw[if_pos (.inr ha),if_pos ha]
   · rw[if_neg (by omega),if_neg ha];have k1:=matchP_spec hm (s.drop a.toNat);have k2:=refMatch_spec (rules_wf h) (s.drop a.toNat);rw[←rulesR_map] at k2;refine k1.uniq k2 (fun k r _=>?_);simp only[List.getElem?_map];constructor
     · rintro⟨s',hs',hl⟩;exact⟨_,by rw[hs'];rfl,hl⟩
     · rintro⟨x,hx,hl⟩;cases hs':rules[r]? with
       |none=>rw[hs'] at hx;cases hx
       |some s'=>rw[hs'] at hx;cases hx;exact⟨s',rfl,hl⟩
 · exact absurd h h2
def eRl:Elt (List RuP):=⟨1,by decide,fun h O cs rs=>∃oa n c,cs=[.slice oa n c]∧SlR eRu h O (.slice oa n c) rs,fun h=>by obtain⟨oa,n,c,rfl,_⟩:=h;rfl,fun h=>by
 obtain⟨oa,n,c,rfl,_⟩:=h;intro u hu;simp at hu;subst hu;rfl,fun h m=>by
 obtain⟨oa,n,c,hc,hv⟩:=h;exact⟨oa,n,c,hc,hv.mv m⟩⟩
def modesL:List (List RuP):=[rulesR (rulesM 0),rulesR (rulesM 1),rulesR (rulesM 2)]
theorem modes_at (hi:i<3):modesL.take (i+1)=modesL.take i++[rulesR (rulesM (i:Nat))]∧modesL[i]? =some (rulesR (rulesM (i:Nat))):=by
 have:i=0∨i=1∨i=2:=by omega
 rcases this with rfl|rfl|rfl<;>exact⟨rfl,rfl⟩
theorem make_ok {l:List By}{q:List Ste×Nat}(h:makeP l= .inr q):rulesP l=0:=by
 rcases make_rules l with ⟨_,_,h2⟩|⟨h1,_⟩
 · exact h2
 · rw[h] at h1;cases h1
theorem modes_ok (hi:i<3):rulesP (rulesM (i:Nat))=0∧∀s∈rulesM (i:Nat),s.length≤1000000:=by
 have:i=0∨i=1∨i=2:=by omega
 rcases this with rfl|rfl|rfl
 · exact⟨make_ok mk0,fun s hs=>(show ∀s∈rules0,s.length≤1000000 by decide +kernel) s hs⟩
 · exact⟨make_ok mk1,fun s hs=>(show ∀s∈rules1,s.length≤1000000 by decide +kernel) s hs⟩
 · exact⟨make_ok mk2,fun s hs=>(show ∀s∈rules2,s.length≤1000000 by decide +kernel) s hs⟩
theorem modes_calls:CallsH Tryz.prog 29 #[] h (Ret fun r h'=>SlR eRl h' (fun _=>False) r modesL∧Ext0 h h'):=by
 refine CallsH.of Tryz.func29 rfl rfl ?_;refine xrd Tryz.func29 1 [0] rfl ?_;refine xrd Tryz.func29 1 [0,1] rfl ?_;refine G.seq rfl ?_;refine xrd Tryz.func29 1 [0,1,2] rfl ?_;refine G.block rfl rfl ?_;refine G.loop (σ:=Nat×Value) (fun q=>[(1,q.2),(2,.int .i64 (q.1:Nat))]) (fun q h'=>q.1≤3∧Ext0 h h'∧OwX eRl (fun b=>b<h.size) h' h.size 117 q.2 (modesL.take q.1)) (fun q=>3-q.1) ((0,.slice none 0 0)) rfl ⟨rfl,rfl,trivial⟩ ⟨Nat.zero_le _,Ext.refl _ _,OwX.nil _ _ _ _ _⟩ ?_;rintro⟨i,ov⟩ g ⟨hi,eg,hov⟩ ih
 try dsimp only
 dsimp only at hi hov;have hzg:=eg.size;refine G.seq rfl ?_;refine xrd Tryz.func29 2 [1,2,6] rfl ?_;refine G.ite rfl rfl (fun hlt=>?_) (fun hlt=>?_)
 · have hi3:i<3:=by omega
   obtain⟨hm1,hm2⟩:=modes_at hi3;obtain⟨hm3,hm4⟩:=modes_ok hi3;obtain⟨css,hc1,hc2,hc3⟩:=id hov;have hrl2:(modesL.take i).length=i:=by rw[List.length_take];show min i 3=i;omega
   refine G.skip rfl ?_;refine G.seq rfl ?_;refine G.block rfl rfl ?_;refine xra Tryz.func29 1 rfl ?_;refine xo rfl (OpX.call (vs:=[_]) Tryz.func55 rfl H.nm55 rfl (CallsH.toX (ofR_calls (i:Nat)))) ?_;rintro _ g1 ⟨hsl,e1⟩;refine xo rfl (OpX.call (vs:=[_]) Tryz.func54 rfl H.nm54 rfl (CallsH.toX (rules_calls hsl hm4))) ?_;rintro _ g2 ⟨⟨rv,rfl,hrv⟩,e2⟩;obtain⟨ra,rn,rc,rfl,hrs⟩:=(hrv hm3).open;have z1:=e1.size;have z2:=e2.size;have e02:Ext0 g g2:=e1.trans e2;refine xqd 5 [1,2,3,6] rfl ?_;refine G.reg Tryz.func29 rfl ?_;refine xqm 2 rfl ?_;refine xo rfl (OpX.buildOnes (us:=[_]) Tryz.underlying67 H.el117 rfl rfl (by decide) (by simp[Value.oneCell'])) ?_;rintro _ _ ⟨rfl,rfl⟩;refine xo rfl (OpX.appendNew Tryz.underlying67 H.el117 rfl rfl ((hc2.ext0' e02)) rfl rfl (by first|decide|simp[Value.oneCell']) (by omega) (by decide) (by omega)) ?_;rintro v2 g6 ⟨ho6,hx6,hx6',hv6⟩;have hown:∀b,ov.ownBlock=some b→h.size≤b∧b<g.size:=fun b hb=>hc2.lt hb
   have hrow6:OwX eRl (fun b=>b<h.size) g6 h.size 117 v2 (modesL.take (i+1)):=by
    rw[hm1]
    exact OwX.pushed (h:=g2) (v:=ov) (css:=css) (cs:=[.slice ra rn rc]) hc1 (fun j cs y a b=>eRl.mv (hc3 j cs y a b) (Mv.ext0 e02)) ho6 hx6 hv6 ⟨ra,rn,rc,rfl,hrs.shut.mv ⟨Nat.le_refl _,fun b hb hn=>⟨rfl,fun k=>hn (by
     rcases k with k|k
     · have:=hown b k.symm;omega
     · omega)⟩⟩⟩
   have e06:Ext0 h g6:=⟨by have:=hx6.size;omega,fun b hb k=>by
    rw[hx6.block b (by omega) (fun k2=>by have:=hown b k2.symm;omega),e02.block b (by omega) (fun k=>k)];exact eg.block b hb k⟩
   refine xqd 1 [1,2,3,6] rfl ?_;refine G.blkEnd ?_;refine G.reg Tryz.func29 rfl ?_;refine xqp 1 rfl rfl (OpP.add64 rfl rfl ⟨by omega,by omega⟩) ?_;refine xqd 1 [1,2,3,6] rfl ?_;exact ih (i+1,v2) _ _ ⟨rfl,rfl,trivial⟩ ⟨by show i+1≤3;omega,e06,hrow6⟩ (by show 3-(i+1)<3-i;omega)
 · obtain rfl:i=3:=by omega
   refine G.exit rfl rfl ?_;refine xrd Tryz.func29 2 [0,1,2,6] rfl ?_;refine G.ret Tryz.func29 rfl rfl ?_;exact⟨_,rfl,hov.read (fun b hb k=>by cases k) (fun b _ k=>k.elim),eg⟩
theorem refA_lex (hi:i<3) (s:By) (k:Nat) (hk:k≤s.length):((refA (rulesR (rulesM (i:Nat))) s (k:Nat)).1,(refA (rulesR (rulesM (i:Nat))) s (k:Nat)).2.1)=lexM (i:Nat) (s.drop k):=by
 rw[←matchM_ref (modes_ok hi).1]
 have key:∀{l:List By}{q:List Ste×Nat},makeP l= .inr q→matchM l s (k:Nat)=matchP q.1 q.2 (s.drop k):=fun h=>by
  unfold matchM;rw[h];simp only[matchA];rw[if_neg (by have:=(makeP_made h).stl;omega)];rfl
 have:i=0∨i=1∨i=2:=by omega
 rcases this with rfl|rfl|rfl
 · exact key mk0
 · exact key mk1
 · exact key mk2
theorem lex_range {m:Int}(h:¬(0≤m∧m<3)) (l:By):lexM m l=(0,-1):=by
 unfold lexM;rw[if_neg (by omega),if_neg (by omega),if_neg (by omega)]
theorem oneR_calls {mv:Value}(hm:SlR eRl h (fun _=>False) mv modesL) (s:By) (i:Nat) (hi:i<s.length) (hs:s.length≤1000000) (st:LSt) (hst:I64 st.2) :
 CallsH Tryz.prog 30 #[mv,.string (bs s),.int .i64 (i:Nat),.agg (encLSt st).toArray] h (Ret fun r h'=>(∃sp:Int,r= .tuple #[.agg (encTk (kndP (s.drop i) st.1,(i:Int),((i+lenP (s.drop i) st.1:Nat):Int))).toArray,.agg (encLSt (nxtP (s.drop i) st)).toArray,.int .i64 sp])∧Ext0 h h'):=by
 have hbs:=bs_size s;have hne:s.drop i≠[]:=fun e=>by have:=congrArg List.length e;rw[List.length_drop] at this;simp at this;omega
 have hll:=lexM_len st.1 (s.drop i);have hrl:=rune_len hne;have hnr:=next_rune hne;rw[List.length_drop] at hll hrl;obtain⟨ma,mn,mc,rfl,hms⟩:=hm.open;have hml:3=mn:=hms.len;subst hml;refine CallsH.of Tryz.func30 rfl rfl ?_;refine xr Tryz.func30 rfl ?_;refine xo rfl (OpX.boxN rfl) ?_;rintro _ h1 ⟨rfl,k7,e1,z1⟩;refine xo rfl (OpX.allocN H.zr35) ?_;rintro _ h2 ⟨rfl,k8,e2,z2⟩;refine xo rfl (OpX.allocN H.zr27) ?_;rintro _ h3 ⟨rfl,k9,e3,z3⟩;have k7:Blk h1 h.size 27 (encLSt st):=k7;have k8:Blk h2 h1.size 35 (encTk (0,0,0)):=k8;have k9:Blk h3 h2.size 27 (encLSt (0,0)):=k9;have e03:=(e1.trans e2).trans e3;have q7:=(k7.ext0 e2).ext0 e3;have q8:=k8.ext0 e3;have y1:=e1.size;have y2:=e2.size;have hout:∀{g g2 g3:Heap},Ext0 h3 g→Ext (fun b=>b=h1.size) g g2→Ext (fun b=>b=h2.size) g2 g3→Ext0 h g3:=fun ea eb ec=>Ext0.only (Ext0.only (e03.trans ea) eb (by omega)) ec (by omega)
 refine xqd 1 [0,1,2,3,7,8,9,10] rfl ?_;refine G.seq rfl ?_;refine G.seq rfl ?_;refine G.regTo1 [(25,.bool false)] [(0,_),(1,_),(2,_),(3,_),(7,_),(8,_),(9,_),(10,_)] ⟨rfl,rfl,rfl,rfl,rfl,rfl,rfl,rfl,trivial⟩ Tryz.func30 rfl ?_ ?_
 · refine xqm 3 rfl ?_;refine RW.know (d:=20) (b':=false) rfl (by simp) ?_;refine xqp 2 rfl rfl (OpP.lenString Tryz.underlying9 rfl) ?_;refine xqm 2 rfl ?_;refine RW.done rfl ?_;exact⟨rfl,at_bool rfl (by simp;omega),rfl,rfl,rfl,rfl,rfl,rfl,rfl,rfl,trivial⟩
 · refine G.cond rfl rfl (fun hc=>absurd hc (by decide)) (fun _=>?_);refine G.skip rfl ?_;refine xrd Tryz.func30 3 [0,1,2,3,7,8,9,10,11,12,13,25] rfl ?_;refine G.seq rfl ?_;refine G.seq rfl ?_;refine G.regTo1 [(35,.bool (decide (0≤st.1∧st.1<3)))] [(0,_),(1,_),(2,_),(3,_),(7,_),(8,_),(9,_),(10,_),(11,_),(12,_),(13,_),(25,_)] ⟨rfl,rfl,rfl,rfl,rfl,rfl,rfl,rfl,rfl,rfl,rfl,rfl,trivial⟩ Tryz.func30 rfl ?_ ?_
   · refine xp rfl (OpP.fieldAddr (off:=0) Tryz.underlying27 rfl rfl H.sz3 rfl) ?_;refine xp rfl (OpP.load H.ag3 rfl (q7.cell (i:=0) rfl)) ?_;refine xqm 2 rfl ?_;refine RW.split (d:=31) rfl (fun c1=>?_) (fun c1=>?_)
     · have c1':(0:Int)≤st.1:=of_decide_eq_true c1;refine xp rfl (OpP.fieldAddr (off:=0) Tryz.underlying27 rfl rfl H.sz3 rfl) ?_;refine xp rfl (OpP.load H.ag3 rfl (q7.cell (i:=0) rfl)) ?_;refine xqm 2 rfl ?_;refine RW.done rfl ?_;exact⟨rfl,at_bool rfl (by rw[decide_eq_decide];omega),rfl,rfl,rfl,rfl,rfl,rfl,rfl,rfl,rfl,rfl,rfl,rfl,trivial⟩
     · have c1':¬(0:Int)≤st.1:=of_decide_eq_false c1;refine xqm 4 rfl ?_;refine RW.done rfl ?_;exact⟨rfl,at_bool rfl (by rw[decide_eq_false];omega),rfl,rfl,rfl,rfl,rfl,rfl,rfl,rfl,rfl,rfl,rfl,rfl,trivial⟩
   · generalize hlm:lexM st.1 (s.drop i)=lm at *;obtain⟨L,rl⟩:=lm;dsimp only at hll
     have fin:∀(far:Int) (h':Heap) (ρ':Env),Sub [(1,.string (bs s)),(2,.int .i64 (i:Nat)),(7,.pointer (some ⟨h.size,0,none⟩)),(8,.pointer (some ⟨h1.size,0,none⟩)),(9,.pointer (some ⟨h2.size,0,none⟩)),(11,.int .i64 L),(12,.int .i64 rl),(13,.int .i64 far)] ρ'→Ext0 h3 h'→G Tryz.prog 30 Tryz.f30 [.code [1,1,1,1]] ρ' h' (Ret fun r h'=>(∃sp:Int,r= .tuple #[.agg (encTk (kndP (s.drop i) st.1,(i:Int),((i+lenP (s.drop i) st.1:Nat):Int))).toArray,.agg (encLSt (nxtP (s.drop i) st)).toArray,.int .i64 sp])∧Ext0 h h'):=by
      rintro far g ρ' hsub eg;refine G.sub (ρ':=[(1,.string (bs s)),(2,.int .i64 (i:Nat)),(7,.pointer (some ⟨h.size,0,none⟩)),(8,.pointer (some ⟨h1.size,0,none⟩)),(9,.pointer (some ⟨h2.size,0,none⟩)),(11,.int .i64 L),(12,.int .i64 rl),(13,.int .i64 far)]) hsub ?_;have q7:=q7.ext0 eg;have q8:=q8.ext0 eg;have k9:=k9.ext0 eg;have yg:=eg.size;refine G.seq rfl ?_;refine xrd Tryz.func30 2 [1,2,7,8,9,11,12,13,49] rfl ?_;refine G.ite rfl rfl (fun hz=>?_) (fun hz=>?_)
      · have hlen:lenP (s.drop i) st.1=runeN (s.drop i):=by rw[lenP,hlm,if_pos hz]
        have hknd:kndP (s.drop i) st.1=0:=by rw[kndP,hlm,if_pos hz]
        have hnxt:nxtP (s.drop i) st=st:=by rw[nxtP,hlm,if_pos hz]
        rw[hlen,hknd,hnxt];have hnx:=nextR_calls (h:=g) s i hi hs;rw[hnr] at hnx;refine xra Tryz.func30 2 rfl ?_;refine xo rfl (OpX.call (vs:=[_,_]) Tryz.func57 rfl H.nm57 rfl (CallsH.toX (hnx))) ?_;rintro _ h5 ⟨⟨x,ok,rfl⟩,e5⟩;have r7:=q7.ext0 e5;have r8:=q8.ext0 e5;have r9:=k9.ext0 e5;have y5:=e5.size;have hM7:¬(h.size=h1.size∨h.size=h2.size∨Array.size h5≤h.size):=by have:=e03.size;omega
        refine xqd 7 [1,2,7,8,9,11,12,13,15,49] rfl ?_;refine G.seq rfl ?_;refine G.draw (fun b=>b=Array.size h1∨b=Array.size h2∨Array.size h5≤b) (fun i=>Nat.blt i 9) (sz:=10) (listed:= #[false,false,false,false,false,false,false,false,false,false]) Tryz.func30 H.mixed rfl rfl rfl ?_;refine xtq 0 1 (by kernel_rfl) rfl ?_;refine xtq 1 3 (by kernel_rfl) rfl ?_;refine xtq 2 7 (by kernel_rfl) rfl ?_;refine xtp 3 15 (by kernel_rfl) rfl (fun h' e=>OpP.add64 rfl rfl ⟨by omega,by omega⟩) ?_;refine xtp 4 31 (by kernel_rfl) rfl (fun h' e=>OpP.build (H.bd35_0_1_2 _ _ _) rfl) ?_;refine xtp 5 63 (by kernel_rfl) rfl (fun h' e=>OpP.loadRowN H.ag27 H.sz27 rfl (e.rowAt hM7 r7.row) (by first|rfl|(simp;done)|(simp;omega))) ?_;refine xtq 6 127 (by kernel_rfl) rfl ?_;refine xt0 7 255 (by kernel_rfl) rfl (OpX.storeBlk H.sz35 rfl rfl r8 (by first|rfl|(simp;done)|(simp;omega)) (by first|decide|exact of_decide_eq_true rfl|(simp;done)|(simp;omega)) (by first|decide|simp[Value.oneCell'])) ?_;rintro _ h6 ⟨rfl,w8,x6,z6⟩;refine⟨fun _=>x6.mono (fun _ _ k=>.inl k),?_⟩;refine xt0 8 511 (by kernel_rfl) rfl (OpX.storeBlk H.sz27 rfl rfl (r9.ext x6 (fun k=>by omega)) (by first|rfl|(simp;done)|(simp;omega)) (by first|decide|exact of_decide_eq_true rfl|(simp;done)|(simp;omega)) (lst_one st)) ?_;rintro _ h7 ⟨rfl,w9,x7,z7⟩;refine⟨fun _=>x7.mono (fun _ _ k=>.inr (.inl k)),?_⟩;have w8:Blk h6 h1.size 35 (encTk (0,(i:Int),((i+runeN (s.drop i):Nat):Int))):=by rw[Int.natCast_add];exact w8
        have w8:=w8.ext x7 (show ¬h1.size=h2.size by omega);have w9:Blk h7 h2.size 27 (encLSt st):=w9;refine xtq 9 1023 (by kernel_rfl) rfl ?_;refine RD.done (by kernel_rfl) ?_;refine xu [1,2,7,8,9,10,11,12,13,15,49] rfl ?_;refine G.retC Tryz.func30 rfl (.cons (ResOk.rowN H.ag35 H.sz35 rfl (w8.row) (by first|rfl|(simp;done)|(simp;omega))) (.cons (ResOk.rowN H.ag27 H.sz27 rfl (w9.row) (by first|rfl|(simp;done)|(simp;omega))) (.cons (ResOk.tmp rfl) (.nil)))) ?_;exact⟨_,rfl,⟨_,rfl⟩,hout (eg.trans e5) x6 x7⟩
      · obtain⟨L,rfl⟩:=Int.eq_ofNat_of_zero_le hll.1;have hL0:0<L:=by omega
        have hlen:lenP (s.drop i) st.1=L:=by rw[lenP,hlm,if_neg hz];rfl
        have hknd:kndP (s.drop i) st.1=if kindP st.1 rl=3∧wordP ((s.drop i).take L)=true then 4 else kindP st.1 rl:=by rw[kndP,hlm,if_neg hz];rfl
        have hnxt:nxtP (s.drop i) st=afterP st rl:=by rw[nxtP,hlm,if_neg hz]
        rw[hlen,hknd,hnxt];refine G.skip rfl ?_;refine xr Tryz.func30 rfl ?_;refine xp rfl (OpP.fieldAddr (off:=0) Tryz.underlying27 rfl rfl H.sz3 rfl) ?_;refine xp rfl (OpP.load H.ag3 rfl (q7.cell (i:=0) rfl)) ?_;refine xqm 1 rfl ?_;refine xo rfl (OpX.call (vs:=[_,_]) Tryz.func58 rfl H.nm58 rfl (CallsH.toX (kindR_calls st.1 rl))) ?_;rintro _ h5 ⟨rfl,e5⟩;generalize kindP st.1 rl=kd at *;have hcut:(bs s).extract i (i+L)=bs ((s.drop i).take L):=by rw[bs_part s i (i+L) (by omega),List.drop_take,Nat.add_sub_cancel_left]
        have r7:=q7.ext0 e5;have r8:=q8.ext0 e5;have r9:=k9.ext0 e5;have y5:=e5.size;refine xqd 1 [1,2,7,8,9,11,12,13,17,49] rfl ?_;refine G.seq rfl ?_;refine G.seq rfl ?_;refine G.regToX (fun(_u:Unit) (h':Heap)=>Ext0 h5 h') (fun(_u:Unit)=>[(78,.bool (decide (kd=3∧wordP ((s.drop i).take L)=true)))]) [(1,_),(2,_),(7,_),(8,_),(9,_),(11,_),(12,_),(13,_),(17,_),(49,_)] ⟨rfl,rfl,rfl,rfl,rfl,rfl,rfl,rfl,rfl,rfl,trivial⟩ Tryz.func30 rfl ?_ ?_
        · refine xqm 3 rfl ?_;refine RW.split (d:=70) rfl (fun hc=>?_) (fun hc=>?_)
          · have hc':kd=3:=of_decide_eq_true hc;refine xqp 4 rfl rfl (OpP.add64 rfl rfl ⟨by omega,by omega⟩) ?_;refine xp rfl (OpP.sliceStr Tryz.underlying9 rfl rfl i rfl rfl (i+L) rfl (by omega) (by omega)) ?_;rw[hcut];refine xo rfl (OpX.call (vs:=[_]) Tryz.func31 rfl H.nm31 rfl (CallsH.toX (wordR_calls ((s.drop i).take L)))) ?_;rintro _ h7 ⟨rfl,e7⟩;refine xqm 1 rfl ?_;refine RW.done rfl ?_;exact⟨(),e7,at_bool rfl (by simp[hc']),rfl,rfl,rfl,rfl,rfl,rfl,rfl,rfl,rfl,rfl,trivial⟩
          · have hc':¬kd=3:=of_decide_eq_false hc;refine xqm 8 rfl ?_;refine RW.done rfl ?_;exact⟨(),Ext.refl _ _,at_bool rfl (by simp[hc']),rfl,rfl,rfl,rfl,rfl,rfl,rfl,rfl,rfl,rfl,trivial⟩
        · rintro _ h6 e6;have r7:=r7.ext0 e6;have r8:=r8.ext0 e6;have r9:=r9.ext0 e6;have y6:=e6.size;have e36:Ext0 h3 h6:=(eg.trans e5).trans e6;refine G.ite rfl rfl (fun hw=>?_) (fun hw=>?_)
          · rw[if_pos hw];refine G.reg Tryz.func30 rfl ?_;refine xqd 1 [1,2,7,8,9,11,12,13,17,49,78] rfl ?_;refine xra Tryz.func30 4 rfl ?_;refine xp rfl (OpP.add64 rfl rfl ⟨by omega,by omega⟩) ?_;refine xp rfl (OpP.build (H.bd35_0_1_2 _ _ _) rfl) ?_;refine xp rfl (OpP.loadRowN H.ag27 H.sz27 rfl r7.row (by first|rfl|(simp;done)|(simp;omega))) ?_;refine xqm 1 rfl ?_;refine xo rfl (OpX.call (vs:=[_,_]) Tryz.func59 rfl H.nm59 rfl (CallsH.toX (afterR_calls st rl hst))) ?_;rintro _ h8 ⟨rfl,e8⟩;refine xqm 1 rfl ?_;refine RW.op0 rfl rfl rfl (OpX.storeBlk H.sz35 rfl rfl (r8.ext0 e8) (by first|rfl|(simp;done)|(simp;omega)) (by first|decide|exact of_decide_eq_true rfl|(simp;done)|(simp;omega)) (by first|decide|simp[Value.oneCell'])) ?_;rintro _ h9 ⟨rfl,w8,x9,z9⟩;refine RW.op0 rfl rfl rfl (OpX.storeBlk H.sz27 rfl rfl ((r9.ext0 e8).ext x9 (show ¬h2.size=h1.size by omega)) (by first|rfl|(simp;done)|(simp;omega)) (by first|decide|exact of_decide_eq_true rfl|(simp;done)|(simp;omega)) (lst_one _)) ?_;rintro _ h10 ⟨rfl,w9,x10,z10⟩;refine xqd 1 [1,2,7,8,9,10,11,12,13,17,49,78] rfl ?_;have w8:Blk h9 h1.size 35 (encTk (4,(i:Int),((i+L:Nat):Int))):=by rw[Int.natCast_add];exact w8
            have w8:=w8.ext x10 (show ¬h1.size=h2.size by omega);have w9:Blk h10 h2.size 27 (encLSt (afterP st rl)):=w9;refine G.retC Tryz.func30 rfl (.cons (ResOk.rowN H.ag35 H.sz35 rfl (w8.row) (by first|rfl|(simp;done)|(simp;omega))) (.cons (ResOk.rowN H.ag27 H.sz27 rfl (w9.row) (by first|rfl|(simp;done)|(simp;omega))) (.cons (ResOk.tmp rfl) (.nil)))) ?_;exact⟨_,rfl,⟨_,rfl⟩,hout (e36.trans e8) x9 x10⟩
          · rw[if_neg hw];refine G.skip rfl ?_;refine xra Tryz.func30 4 rfl ?_;refine xp rfl (OpP.add64 rfl rfl ⟨by omega,by omega⟩) ?_;refine xp rfl (OpP.build (H.bd35_0_1_2 _ _ _) rfl) ?_;refine xp rfl (OpP.loadRowN H.ag27 H.sz27 rfl r7.row (by first|rfl|(simp;done)|(simp;omega))) ?_;refine xqm 1 rfl ?_;refine xo rfl (OpX.call (vs:=[_,_]) Tryz.func59 rfl H.nm59 rfl (CallsH.toX (afterR_calls st rl hst))) ?_;rintro _ h8 ⟨rfl,e8⟩;refine xqm 1 rfl ?_;refine RW.op0 rfl rfl rfl (OpX.storeBlk H.sz35 rfl rfl (r8.ext0 e8) (by first|rfl|(simp;done)|(simp;omega)) (by first|decide|exact of_decide_eq_true rfl|(simp;done)|(simp;omega)) (by first|decide|simp[Value.oneCell'])) ?_;rintro _ h9 ⟨rfl,w8,x9,z9⟩;refine RW.op0 rfl rfl rfl (OpX.storeBlk H.sz27 rfl rfl ((r9.ext0 e8).ext x9 (show ¬h2.size=h1.size by omega)) (by first|rfl|(simp;done)|(simp;omega)) (by first|decide|exact of_decide_eq_true rfl|(simp;done)|(simp;omega)) (lst_one _)) ?_;rintro _ h10 ⟨rfl,w9,x10,z10⟩;refine xqd 1 [1,2,7,8,9,10,11,12,13,17,49,78] rfl ?_;have w8:Blk h9 h1.size 35 (encTk (kd,(i:Int),((i+L:Nat):Int))):=by rw[Int.natCast_add];exact w8
            have w8:=w8.ext x10 (show ¬h1.size=h2.size by omega);have w9:Blk h10 h2.size 27 (encLSt (afterP st rl)):=w9;refine G.retC Tryz.func30 rfl (.cons (ResOk.rowN H.ag35 H.sz35 rfl (w8.row) (by first|rfl|(simp;done)|(simp;omega))) (.cons (ResOk.rowN H.ag27 H.sz27 rfl (w9.row) (by first|rfl|(simp;done)|(simp;omega))) (.cons (ResOk.tmp rfl) (.nil)))) ?_;exact⟨_,rfl,⟨_,rfl⟩,hout (e36.trans e8) x9 x10⟩
     refine G.ite rfl rfl (fun hmo=>?_) (fun hmo=>?_)
     · obtain⟨m,hmq⟩:∃m:Nat,st.1=(m:Nat):=⟨st.1.toNat,by omega⟩
       have hm3:m<3:=by omega
       obtain⟨bb,o,cs,hoa,_,hrow,⟨ra,rn,rc,rfl,hrs⟩⟩:=(hms.mv (Mv.ext0 e03)).get m _ (modes_at hm3).2;have hlex:=refA_lex hm3 s i (by omega);rw[hmq] at hlm;rw[hlm] at hlex;have hq1:(refA (rulesR (rulesM (m:Nat))) s (i:Nat)).1=L:=congrArg Prod.fst hlex;have hq2:(refA (rulesR (rulesM (m:Nat))) s (i:Nat)).2.1=rl:=congrArg Prod.snd hlex;have hmat:=matchR_calls (s:=s) (a:=((i:Nat):Int)) hrs (rules_ok (modes_ok hm3).1) (by show (rulesR (rulesM (m:Nat))).length≤1000000;simp only[rulesR,List.length_map];have:=(rulesM_len (m:Nat)).2.1;omega) hs;rw[hq1,hq2] at hmat;generalize (refA (rulesR (rulesM (m:Nat))) s (i:Nat)).2.2=a3 at hmat;refine G.reg Tryz.func30 rfl ?_;refine xqp 1 rfl rfl (OpP.fieldAddr (off:=0) Tryz.underlying27 rfl rfl H.sz3 rfl) ?_;refine xp rfl (OpP.load H.ag3 rfl (q7.cell (i:=0) rfl)) ?_;refine xp rfl (OpP.indexSlice Tryz.underlying67 H.sz117 rfl rfl m hmq hoa (by omega)) ?_;refine xp rfl (OpP.load H.ag117 rfl (hrow 0 _ rfl)) ?_;refine xqm 2 rfl ?_;refine xo rfl (OpX.call (vs:=[_,_,_]) Tryz.func56 rfl H.nm56 rfl (CallsH.toX (hmat))) ?_;rintro _ g ⟨rfl,eg⟩;refine xqd 7 [0,1,2,3,7,8,9,10,11,12,13,25,35] rfl ?_;exact fin a3 _ _ ⟨rfl,rfl,rfl,rfl,rfl,rfl,rfl,rfl,trivial⟩ eg
     · rw[lex_range hmo] at hlm;cases hlm;refine G.skip rfl ?_;exact fin 0 _ _ ⟨rfl,rfl,rfl,rfl,rfl,rfl,rfl,rfl,trivial⟩ (Ext.refl _ _)
theorem two_app {g w:Heap}{base:Nat}{vt:Value}{toks:List Tk}{pre:List LSt}(ht:OwR 3 encTk g base 35 vt toks) (hs:OwR 2 encLSt g base 27 vs pre):∀b,but vt.ownBlock b→¬but vs.ownBlock b:=fun b hb hc=>by
 obtain⟨cur,fr,h1⟩:=OwnH.ty ht hb.symm;obtain⟨cur',fr',h2⟩:=OwnH.ty hs hc.symm;have:=h1.symm.trans h2;simp at this
def AppP (g:Heap) (base:Nat) (vt vs:Value) (toks:List Tk) (sts:List LSt) (t:Tk) (st:LSt) (q:Value×Value) (h:Heap):Prop :=
 OwR 3 encTk h base 35 q.1 (toks++[t])∧OwR 2 encLSt h base 27 q.2 (sts++[st])∧Ext (fun b=>but vt.ownBlock b∨but vs.ownBlock b) g h
theorem app_end {g w2 w4:Heap}{base:Nat}{vt vt2 vs2:Value}{toks:List Tk}{sts:List LSt}{t:Tk}{st:LSt}(ho:OwR 3 encTk g base 35 vt toks) (hs:OwR 2 encLSt g base 27 vs sts) (x1:Ext (but vt.ownBlock) g w2) (hv2:∀b,vt2.ownBlock=some b→vt.ownBlock=some b∨g.size≤b)
 (ho2:OwnH w2 base 35 3 vt2 (toks.length+1) (toks.flatMap encTk++encTk t)) (x2:Ext (but vs.ownBlock) w2 w4) (ho4:OwnH w4 base 27 2 vs2 (sts.length+1) (sts.flatMap encLSt++encLSt st)):AppP g base vt vs toks sts t st (vt2,vs2) w4:=by
 have hd:=two_app (w:=g) ho hs;refine⟨OwR.of (OwnH.ext x2 ho2 (fun b hb k=>?_)) rfl rfl,OwR.of ho4 rfl rfl,(x1.mono (fun _ _ k=>.inl k)).trans (x2.mono (fun _ _ k=>.inr k))⟩
 rcases hv2 b hb with h|h
 · exact hd b h.symm k
 · have:=(OwnH.lt hs k.symm).2;omega
theorem statesR_calls (s:By) (hs:s.length≤1000000) :
 CallsH Tryz.prog 16 #[.string (bs s)] h (Ret fun r h'=>(∃tv sv,r= .tuple #[tv,sv]∧SlR eTk h' (fun b=>b<h.size) tv (allP s).1∧SlR eSt h' (fun b=>b<h.size) sv (stsP s))∧Ext0 h h'):=by
 have hbs:=bs_size s;generalize hres:(allP s).1=res;generalize hsts:stsP s=sts;refine CallsH.of Tryz.func16 rfl rfl ?_;refine xrd Tryz.func16 2 [0,2,3] rfl ?_;refine xr Tryz.func16 rfl ?_;refine xo rfl (OpX.call (vs:=[]) Tryz.func29 rfl H.nm29 rfl (CallsH.toX (modes_calls))) ?_;rintro mv h1 ⟨hmv,e1⟩;refine xqd 1 [0,2,3,4] rfl ?_;refine xrd Tryz.func16 1 [0,2,3,4,5] rfl ?_;refine xr Tryz.func16 rfl ?_;refine xp rfl (OpP.build (H.bd27_ ) rfl) ?_;refine xo rfl (OpX.buildRec (cs:=[_,_]) Tryz.underlying45 H.el27 rfl rfl (by decide)) ?_;rintro _ _ ⟨rfl,rfl⟩;refine xqd 1 [0,2,3,4,5,6] rfl ?_;refine G.seq rfl ?_;refine xrd Tryz.func16 1 [0,2,3,4,5,6,7] rfl ?_;refine G.block rfl rfl ?_;have hr0:=OwR.made1 (fun _=>rfl) h1 ((0,0):LSt) 27 h1.size (Nat.le_refl _) (cs:=encLSt (0,0)) rfl;have ep:=Ext.push (fun _=>False) h1 (.cells (encLSt (0,0)).toArray 27);refine G.loop (σ:=Nat×LSt×(Value×List Tk)×(Value×List LSt)) (fun q=>[(0,.string (bs s)),(4,mv),(5,q.2.2.1.1),(6,q.2.2.2.1),(7,.int .i64 (q.1:Nat))]) (fun q h'=>(q.1≤s.length∧q.2.2.1.2.length≤q.1∧q.2.2.2.2.length=q.2.2.1.2.length∧I64 q.2.1.2)∧Ext0 h1 h'∧OwR 3 encTk h' h1.size 35 q.2.2.1.1 q.2.2.1.2∧OwR 2 encLSt h' h1.size 27 q.2.2.2.1 (q.2.2.2.2++[q.2.1])∧q.2.2.1.2++(allG s.length (s.drop q.1) q.1 q.2.1).1=res∧q.2.2.2.2++stsG s.length (s.drop q.1) q.2.1=sts) (fun q=>s.length+1-q.1) ((0,(0,0),(.slice none 0 0,[]),(.slice (some ⟨h1.size,0,none⟩) 1 1,[]))) rfl ⟨rfl,rfl,rfl,rfl,rfl,trivial⟩ ⟨⟨Nat.zero_le _,by simp,rfl,by show I64 0;unfold I64;omega⟩,ep,OwR.nil _ _ _ _ _,hr0,hres,hsts⟩ ?_;rintro⟨i,st,⟨vt,toks⟩,⟨vs,pre⟩⟩ g ⟨⟨hi,htl,hpl,hst⟩,eg,ho,hp,hcon,hcon2⟩ ih
 try dsimp only
 dsimp only at hi htl hpl hst ho hp hcon hcon2;have z1g:=eg.size;have hho:OwnH g h1.size 35 3 vt toks.length (toks.flatMap encTk):=ho;have hhp:OwnH g h1.size 27 2 vs (pre++[st]).length ((pre++[st]).flatMap encLSt):=hp;have tge:∀b,vt.ownBlock=some b→h1.size≤b∧b<g.size:=fun b hb=>hho.lt hb
 have sge:∀b,vs.ownBlock=some b→h1.size≤b∧b<g.size:=fun b hb=>hhp.lt hb
 have hpr:SlR eSt g (fun _=>False) vs (pre++[st]):=OwR.read hp (fun _ _ k=>k);obtain⟨pa,pn,pc,rfl,hps⟩:=hpr.open;have hpn:pre.length+1=pn:=by have:=hps.len;simpa using this
 refine G.seq rfl ?_;refine xra Tryz.func16 2 rfl ?_;refine xp rfl (OpP.lenString Tryz.underlying9 rfl) ?_;refine xqd 1 [0,4,5,6,7,17] rfl ?_;refine G.ite rfl rfl (fun hlt=>?_) (fun hlt=>?_)
 · have hlt':i<s.length:=by omega
   have hne:s.drop i≠[]:=fun e=>by have:=congrArg List.length e;rw[List.length_drop] at this;simp at this;omega
   have hkl:=lenP_len hne st.1;rw[List.length_drop] at hkl;rw[allG_step hne (by rw[List.length_drop];omega)] at hcon;rw[stsG_step hne (by rw[List.length_drop];omega)] at hcon2;have hone:=oneR_calls (hmv.ext0 eg) s i hlt' hs st hst;have hnI:=nxt_I64 hst (s.drop i);rw[List.drop_drop] at hcon hcon2;generalize lenP (s.drop i) st.1=L at *;generalize kndP (s.drop i) st.1=kd at *;generalize nxtP (s.drop i) st=nx at *;obtain⟨bb,o,x,hoa,_,hx,hrow⟩:=hps.recd (i:=pre.length) (by omega);obtain rfl:st=x:=by simpa using hx
   refine G.skip rfl ?_;refine G.block rfl rfl ?_;refine xra Tryz.func16 5 rfl ?_;refine xp rfl (OpP.lenSlice Tryz.underlying45 rfl) ?_;refine xp rfl (OpP.sub64 rfl rfl ⟨by omega,by omega⟩) ?_;refine xp rfl (OpP.indexSlice Tryz.underlying45 H.sz27 rfl rfl pre.length (by omega) hoa (by omega)) ?_;refine xp rfl (OpP.loadRowN H.ag27 H.sz27 rfl hrow (by first|rfl|(simp;done)|(simp;omega))) ?_;refine xo rfl (OpX.call (vs:=[_,_,_,_]) Tryz.func30 rfl H.nm30 rfl (CallsH.toX (hone))) ?_;rintro _ g1 ⟨⟨sp,rfl⟩,f1⟩;refine xqm 4 rfl ?_;refine xo rfl (OpX.allocN H.zr35) ?_;rintro _ g2 ⟨rfl,c7,f2,y2⟩;refine xo rfl (OpX.allocN H.zr27) ?_;rintro _ g3 ⟨rfl,c8,f3,y3⟩;refine RW.op0 rfl rfl rfl (OpX.storeBlk H.sz35 rfl rfl (c7.ext0 f3) (by first|rfl|(simp;done)|(simp;omega)) (by first|decide|exact of_decide_eq_true rfl|(simp;done)|(simp;omega)) (tk_one _)) ?_;rintro _ g4 ⟨rfl,d7,x4,y4⟩;have d7:Blk g4 g1.size 35 (encTk (kd,(i:Int),((i+L:Nat):Int))):=d7;have yz1:=f1.size;have yz2:=f2.size;have yz4:=x4.size;refine RW.op0 rfl rfl rfl (OpX.storeBlk H.sz27 rfl rfl ((c8.ext x4 (show ¬g2.size=g1.size by omega))) (by first|rfl|(simp;done)|(simp;omega)) (by first|decide|exact of_decide_eq_true rfl|(simp;done)|(simp;omega)) (lst_one nx)) ?_;rintro _ g5 ⟨rfl,d8,x5,y5⟩;have d8:Blk g5 g2.size 27 (encLSt nx):=d8;have d7:=d7.ext x5 (show ¬g1.size=g2.size by omega);have yz5:=x5.size;have eg5:Ext0 g g5:=Ext0.only (Ext0.only ((f1.trans f2).trans f3) x4 (by omega)) x5 (by omega);have ho5:=hho.ext0' eg5;have hp5:=hhp.ext0' eg5;have hdis:=two_app (w:=g) ho5 hp5
   have hMa:¬(but vt.ownBlock g1.size∨but (Value.slice pa pn pc).ownBlock g1.size∨Array.size g5≤g1.size):=by
    rintro(k|k|k)
    · have:=tge _ k.symm;omega
    · have:=sge _ k.symm;omega
    · omega
   have hMb:¬(but vt.ownBlock g2.size∨but (Value.slice pa pn pc).ownBlock g2.size∨Array.size g5≤g2.size):=by
    rintro(k|k|k)
    · have:=tge _ k.symm;omega
    · have:=sge _ k.symm;omega
    · omega
   have hpl2:(pre++[st]).length=pn:=hps.len;have hlen1:toks.length+1≤1000001:=by omega
   have hlen2:pn+1≤1000002:=by omega
   refine xqd 1 [0,4,5,6,7,8,9,17] rfl ?_;refine G.seq rfl ?_;refine G.drawToX (fun(q:Value×Value) (h':Heap)=>AppP g5 h1.size vt (.slice pa pn pc) toks (pre++[st]) (kd,(i:Int),((i+L:Nat):Int)) nx q h') (fun(q:Value×Value)=>[(5,q.1),(6,q.2)]) [(0,_),(4,_),(7,_),(8,_),(9,_),(17,_)] ⟨rfl,rfl,rfl,rfl,rfl,rfl,trivial⟩ (fun b=>but vt.ownBlock b∨but (Value.slice pa pn pc).ownBlock b∨Array.size g5≤b) (fun i=>Nat.blt i 10) (sz:=10) (listed:= #[false,false,false,false,false,false,false,false,false,false]) Tryz.func16 H.mixed rfl rfl rfl ?_ ?_
   · refine xtq 0 1 (by kernel_rfl) rfl ?_;refine xtp 1 3 (by kernel_rfl) rfl (fun h' e=>OpP.loadRowN H.ag35 H.sz35 rfl (e.rowAt hMa d7.row) (by first|rfl|(simp;done)|(simp;omega))) ?_;refine xtq 4 19 (by kernel_rfl) rfl ?_;refine xtp 5 51 (by kernel_rfl) rfl (fun h' e=>OpP.loadRowN H.ag27 H.sz27 rfl (e.rowAt hMb d8.row) (by first|rfl|(simp;done)|(simp;omega))) ?_;refine RD.twoS 2 6 (li:= #[true,true,true,false,true,true,false,false,false,false]) (lj:= #[true,true,false,false,true,true,true,false,false,false]) rfl rfl (by kernel_rfl) rfl rfl rfl rfl rfl rfl (OpX.buildRec (cs:=[_,_,_]) Tryz.underlying25 H.el35 rfl rfl (by decide)) (OpX.buildRec (cs:=[_,_]) Tryz.underlying45 H.el27 rfl rfl (by decide)) (by kernel_rfl) (by kernel_rfl) ?_ ?_
     · rintro _ w1 ⟨rfl,hw1⟩;refine⟨fun _=>by rw[hw1];exact Ext.push _ _ _,?_⟩;have x01:Ext0 g5 w1:=by rw[hw1];exact Ext.push _ _ _
       have z01:w1.size=g5.size+1:=by rw[hw1];simp
       have hrA:Lw.rowAt w1 g5.size 0 (encTk (kd,(i:Int),((i+L:Nat):Int))):=by rw[hw1];exact row_push _ _ _
       refine RD.twoS 3 6 (li:= #[true,true,true,true,true,true,false,false,false,false]) (lj:= #[true,true,true,false,true,true,true,false,false,false]) rfl rfl (by kernel_rfl) rfl rfl rfl rfl rfl rfl (OpX.append Tryz.underlying25 H.el35 rfl rfl (ho5.ext0' x01) rfl (.inr ⟨_,_,rfl,hrA⟩) (tk_one _) (by simp only[maxLen];omega) (by omega) (by omega)) (OpX.buildRec (cs:=[_,_]) Tryz.underlying45 H.el27 rfl rfl (by decide)) (by kernel_rfl) (by kernel_rfl) ?_ ?_
       · rintro vt2 w2 ⟨ho2,hx2,_,hv2⟩;refine⟨fun _=>hx2.mono (fun _ _ k=>.inl k),?_⟩;have z12:=hx2.size;refine xto 6 127 (by kernel_rfl) rfl (OpX.buildRec (cs:=[_,_]) Tryz.underlying45 H.el27 rfl rfl (by decide)) ?_;rintro _ w3 ⟨rfl,hw3⟩;refine⟨fun _=>by rw[hw3];exact Ext.push _ _ _,?_⟩;have x23:Ext0 w2 w3:=by rw[hw3];exact Ext.push _ _ _
         have z23:w3.size=w2.size+1:=by rw[hw3];simp
         have hrS:Lw.rowAt w3 w2.size 0 (encLSt nx):=by rw[hw3];exact row_push _ _ _
         refine xto 7 255 (by kernel_rfl) rfl (OpX.append Tryz.underlying45 H.el27 rfl rfl ((OwnH.ext hx2 (hp5.ext0' x01) (fun b hb k=>hdis b k hb.symm)).ext0' x23) rfl (.inr ⟨_,_,rfl,hrS⟩) (lst_one _) (by simp only[maxLen];omega) (by omega) (by omega)) ?_;rintro vs2 w4 ⟨ho4,hx4,_,hv4⟩;refine⟨fun _=>hx4.mono (fun _ _ k=>.inr (.inl k)),?_⟩;refine xtq 8 511 (by kernel_rfl) rfl ?_;refine xtq 9 1023 (by kernel_rfl) rfl ?_;refine RD.done (by kernel_rfl) ?_;exact⟨(vt2,vs2),app_end ho5 hp5 ((Ext0.of x01).trans hx2) (fun b hb=>(hv2 b hb).imp id (fun k=>by omega)) ho2 ((Ext0.of x23).trans hx4) ho4,rfl,rfl,rfl,rfl,rfl,rfl,rfl,rfl,trivial⟩
       · rintro _ w2 ⟨rfl,hw2⟩;refine⟨fun _=>by rw[hw2];exact Ext.push _ _ _,?_⟩;have x12:Ext0 w1 w2:=by rw[hw2];exact Ext.push _ _ _
         have z12:w2.size=w1.size+1:=by rw[hw2];simp
         have hrS:Lw.rowAt w2 w1.size 0 (encLSt nx):=by rw[hw2];exact row_push _ _ _
         have x02:=x01.trans x12;refine xto 3 127 (by kernel_rfl) rfl (OpX.append Tryz.underlying25 H.el35 rfl rfl (ho5.ext0' x02) rfl (.inr ⟨_,_,rfl,x12.rowAt (fun k=>k) hrA⟩) (tk_one _) (by simp only[maxLen];omega) (by omega) (by omega)) ?_;rintro vt2 w3 ⟨ho2,hx2,_,hv2⟩;refine⟨fun _=>hx2.mono (fun _ _ k=>.inl k),?_⟩;have z23:=hx2.size;refine xto 7 255 (by kernel_rfl) rfl (OpX.append Tryz.underlying45 H.el27 rfl rfl (OwnH.ext hx2 (hp5.ext0' x02) (fun b hb k=>hdis b k hb.symm)) rfl (.inr ⟨_,_,rfl,hx2.rowAt (fun k=>by have:=tge _ k.symm;omega) hrS⟩) (lst_one _) (by simp only[maxLen];omega) (by omega) (by omega)) ?_;rintro vs2 w4 ⟨ho4,hx4,_,hv4⟩;refine⟨fun _=>hx4.mono (fun _ _ k=>.inr (.inl k)),?_⟩;refine xtq 8 511 (by kernel_rfl) rfl ?_;refine xtq 9 1023 (by kernel_rfl) rfl ?_;refine RD.done (by kernel_rfl) ?_;exact⟨(vt2,vs2),app_end ho5 hp5 ((Ext0.of x02).trans hx2) (fun b hb=>(hv2 b hb).imp id (fun k=>by omega)) ho2 hx4 ho4,rfl,rfl,rfl,rfl,rfl,rfl,rfl,rfl,trivial⟩
     · rintro _ w1 ⟨rfl,hw1⟩;refine⟨fun _=>by rw[hw1];exact Ext.push _ _ _,?_⟩;have x01:Ext0 g5 w1:=by rw[hw1];exact Ext.push _ _ _
       have z01:w1.size=g5.size+1:=by rw[hw1];simp
       have hrS:Lw.rowAt w1 g5.size 0 (encLSt nx):=by rw[hw1];exact row_push _ _ _
       refine xto 2 119 (by kernel_rfl) rfl (OpX.buildRec (cs:=[_,_,_]) Tryz.underlying25 H.el35 rfl rfl (by decide)) ?_;rintro _ w2 ⟨rfl,hw2⟩;refine⟨fun _=>by rw[hw2];exact Ext.push _ _ _,?_⟩;have x12:Ext0 w1 w2:=by rw[hw2];exact Ext.push _ _ _
       have z12:w2.size=w1.size+1:=by rw[hw2];simp
       have hrA:Lw.rowAt w2 w1.size 0 (encTk (kd,(i:Int),((i+L:Nat):Int))):=by rw[hw2];exact row_push _ _ _
       have x02:=x01.trans x12;refine xto 3 127 (by kernel_rfl) rfl (OpX.append Tryz.underlying25 H.el35 rfl rfl (ho5.ext0' x02) rfl (.inr ⟨_,_,rfl,hrA⟩) (tk_one _) (by simp only[maxLen];omega) (by omega) (by omega)) ?_;rintro vt2 w3 ⟨ho2,hx2,_,hv2⟩;refine⟨fun _=>hx2.mono (fun _ _ k=>.inl k),?_⟩;have z23:=hx2.size;refine xto 7 255 (by kernel_rfl) rfl (OpX.append Tryz.underlying45 H.el27 rfl rfl (OwnH.ext hx2 (hp5.ext0' x02) (fun b hb k=>hdis b k hb.symm)) rfl (.inr ⟨_,_,rfl,hx2.rowAt (fun k=>by have:=tge _ k.symm;omega) (x12.rowAt (fun k=>k) hrS)⟩) (lst_one _) (by simp only[maxLen];omega) (by omega) (by omega)) ?_;rintro vs2 w4 ⟨ho4,hx4,_,hv4⟩;refine⟨fun _=>hx4.mono (fun _ _ k=>.inr (.inl k)),?_⟩;refine xtq 8 511 (by kernel_rfl) rfl ?_;refine xtq 9 1023 (by kernel_rfl) rfl ?_;refine RD.done (by kernel_rfl) ?_;exact⟨(vt2,vs2),app_end ho5 hp5 ((Ext0.of x02).trans hx2) (fun b hb=>(hv2 b hb).imp id (fun k=>by omega)) ho2 hx4 ho4,rfl,rfl,rfl,rfl,rfl,rfl,rfl,rfl,trivial⟩
   · rintro⟨vt2,vs2⟩ g6 ⟨ho6,hp6,x6⟩;dsimp only at ho6 hp6
     have e16:Ext0 h1 g6:=⟨by have:=x6.size;omega,fun b hb _=>by
      rw[x6.block b (by omega) (by rintro(k|k);have:=tge _ k.symm;omega;have:=sge _ k.symm;omega),eg5.block b (by omega) (fun k=>k)];exact eg.block b hb (fun k=>k)⟩
     have d7':=d7.ext x6 (by rintro(k|k);have:=tge _ k.symm;omega;have:=sge _ k.symm;omega);refine G.reg Tryz.func16 rfl ?_;refine xp rfl (OpP.fieldAddr (off:=2) Tryz.underlying35 rfl rfl H.sz3 rfl) ?_;refine xp rfl (OpP.load H.ag3 rfl (d7'.cell (i:=2) rfl)) ?_;refine xqd 1 [0,4,5,6,7,8,9,17] rfl ?_;refine G.blkEnd ?_;exact ih (i+L,nx,(vt2,toks++[(kd,(i:Int),((i+L:Nat):Int))]),(vs2,pre++[st])) _ _ ⟨rfl,rfl,rfl,rfl,rfl,trivial⟩ ⟨⟨by show i+L≤s.length;omega,by simp;omega,by simp;omega,hnI⟩,e16,ho6,hp6,by simpa using hcon,by simpa using hcon2⟩ (by show s.length+1-(i+L)<s.length+1-i;omega)
 · obtain rfl:i=s.length:=by omega
   rw[List.drop_length,allG_nil] at hcon;rw[List.drop_length,stsG_nil] at hcon2;refine G.exit rfl rfl ?_;refine xrd Tryz.func16 4 [0,2,3,4,5,6,7,17] rfl ?_;refine G.ret Tryz.func16 rfl rfl ?_;exact⟨_,rfl,⟨_,_,rfl,by rw[←hcon];show SlR eTk g _ _ (toks++[]);rw[List.append_nil];exact OwR.read ho (fun b hb k=>by have:=e1.size;omega),by rw[←hcon2];exact OwR.read hp (fun b hb k=>by have:=e1.size;omega)⟩,e1.trans eg⟩
theorem lall_calls {p:Value}(hg:LxG h) (k:LexAt h p) (s:By) (hs:s.length≤1000000) :
 CallsH Tryz.prog 13 #[p,.string (bs s)] h (Ret fun r h'=>(∃v,r= .tuple #[v,.agg (encLSt (allP s).2).toArray]∧SlR eTk h' (fun _=>False) v (allP s).1)∧Ext0 h h'):=by
 have hbs:=bs_size s;generalize hres:allP s=res;refine CallsH.of Tryz.func13 rfl rfl ?_;refine xra Tryz.func13 1 rfl ?_;refine xo rfl (OpX.allocN H.zr27) ?_;rintro _ h1 ⟨rfl,k5,e1,z1⟩;have k5:Blk h1 h.size 27 (encLSt (0,0)):=k5;have y1:=e1.size;refine xd [0,1,4,5] rfl ?_;refine G.scope rfl ?_;refine xrd Tryz.func13 1 [0,1,4,5,6] rfl ?_;refine G.seq rfl ?_;refine G.label rfl ?_;refine G.seq rfl ?_;refine G.block rfl rfl ?_;refine G.loop (σ:=Nat×LSt×Value×List Tk) (fun q=>[(0,p),(1,.string (bs s)),(4,q.2.2.1),(5,.pointer (some ⟨h.size,0,none⟩)),(6,.int .i64 (q.1:Nat))]) (fun q h'=>(q.1≤s.length∧q.2.2.2.length≤q.1∧I64 q.2.1.2)∧Ext0 h h'∧h1.size≤h'.size∧Blk h' h.size 27 (encLSt q.2.1)∧OwR 3 encTk h' h1.size 35 q.2.2.1 q.2.2.2∧(q.2.2.2++(allG s.length (s.drop q.1) q.1 q.2.1).1,(allG s.length (s.drop q.1) q.1 q.2.1).2)=res) (fun q=>s.length+1-q.1) ((0,(0,0),.slice none 0 0,[])) rfl ⟨rfl,rfl,rfl,rfl,rfl,trivial⟩ ⟨⟨Nat.zero_le _,by simp,by show I64 0;unfold I64;omega⟩,e1,Nat.le_refl _,k5,OwR.nil _ _ _ _ _,hres⟩ ?_;rintro⟨i,st,vt,toks⟩ g ⟨⟨hi,htl,hst⟩,eg,hz,kS,ho,hcon⟩ ih
 try dsimp only
 dsimp only at hi htl hst kS ho hcon;have hho:OwnH g h1.size 35 3 vt toks.length (toks.flatMap encTk):=ho;obtain⟨ta,tc,rfl,_⟩:=hho.open;have tge:∀b,(Value.slice ta toks.length tc).ownBlock=some b→h1.size≤b∧b<g.size:=fun b hb=>hho.lt hb
 rcases Nat.lt_or_ge i s.length with hlt|hge
 · have hne:s.drop i≠[]:=fun e=>by have:=congrArg List.length e;rw[List.length_drop] at this;simp at this;omega
   have hkl:=lenP_len hne st.1;rw[List.length_drop] at hkl;rw[allG_step hne (by rw[List.length_drop];omega)] at hcon;have hone:=one_calls (hg.ext0 eg) (k.ext0 eg) s i hlt hs st hst;unfold oneV at hone;have hnI:=nxt_I64 hst (s.drop i);rw[List.drop_drop] at hcon;generalize lenP (s.drop i) st.1=L at *;generalize kndP (s.drop i) st.1=kd at *;generalize nxtP (s.drop i) st=nx at *;generalize lexS st.1 (s.drop i)=sp at *;refine G.block rfl rfl ?_;refine xra Tryz.func13 3 rfl ?_;refine xp rfl (OpP.loadRowN H.ag27 H.sz27 rfl kS.row (by first|rfl|(simp;done)|(simp;omega))) ?_;refine xo rfl (OpX.call (vs:=[_,_,_,_]) Tryz.func25 rfl H.nm25 rfl (CallsH.toX (hone))) ?_;rintro _ g1 ⟨rfl,f1⟩;refine xqm 4 rfl ?_;refine xo rfl (OpX.allocN H.zr35) ?_;rintro _ g2 ⟨rfl,c7,f2,y2⟩;refine xo rfl (OpX.allocN H.zr27) ?_;rintro _ g3 ⟨rfl,c8,f3,y3⟩;refine RW.op0 rfl rfl rfl (OpX.storeBlk H.sz35 rfl rfl (c7.ext0 f3) (by first|rfl|(simp;done)|(simp;omega)) (by first|decide|exact of_decide_eq_true rfl|(simp;done)|(simp;omega)) (tk_one _)) ?_;rintro _ g4 ⟨rfl,d7,x4,y4⟩;have d7:Blk g4 g1.size 35 (encTk (kd,(i:Int),((i+L:Nat):Int))):=d7;have yz1:=f1.size;have yz2:=f2.size;have yz4:=x4.size;refine RW.op0 rfl rfl rfl (OpX.storeBlk H.sz27 rfl rfl ((c8.ext x4 (show ¬g2.size=g1.size by omega))) (by first|rfl|(simp;done)|(simp;omega)) (by first|decide|exact of_decide_eq_true rfl|(simp;done)|(simp;omega)) (lst_one nx)) ?_;rintro _ g5 ⟨rfl,d8,x5,y5⟩;have d8:Blk g5 g2.size 27 (encLSt nx):=d8;have d7:=d7.ext x5 (show ¬g1.size=g2.size by omega);have yz5:=x5.size;have eg5:Ext0 g g5:=Ext0.only (Ext0.only ((f1.trans f2).trans f3) x4 (by omega)) x5 (by omega);have hho5:=hho.ext0' eg5;refine xqd 1 [0,1,4,5,6,7,8] rfl ?_;refine G.seq rfl ?_;refine G.block rfl rfl ?_;refine xr Tryz.func13 rfl ?_;refine xp rfl (OpP.fieldAddr (off:=2) Tryz.underlying35 rfl rfl H.sz3 rfl) ?_;refine xp rfl (OpP.load H.ag3 rfl (d7.cell (i:=2) rfl)) ?_;refine xqd 3 [0,1,4,5,6,7,8,19] rfl ?_;refine G.cond rfl rfl (fun hc=>absurd hc (by simp;omega)) (fun _=>?_);refine G.skip rfl ?_;refine G.blkEnd ?_;refine xra Tryz.func13 1 rfl ?_;refine xp rfl (OpP.loadRowN H.ag35 H.sz35 rfl d7.row (by first|rfl|(simp;done)|(simp;omega))) ?_;refine xo rfl (OpX.buildRec (cs:=[_,_,_]) Tryz.underlying25 H.el35 rfl rfl (by decide)) ?_;rintro _ _ ⟨rfl,rfl⟩;refine xo rfl (OpX.appendNew Tryz.underlying25 H.el35 rfl rfl (hho5) rfl rfl (tk_one _) (by omega) (by decide) (by omega)) ?_;rintro vt2 g6 ⟨ho6,hx6,hx6',hv6⟩;have yz6:=hx6.size;have d7:=d7.ext hx6 (fun k=>by have:=tge _ k.symm;omega);have d8:=d8.ext hx6 (fun k=>by have:=tge _ k.symm;omega);have kS6:=(kS.ext0 eg5).ext hx6 (fun k=>by have:=tge _ k.symm;omega);have e06:Ext0 h g6:=Ext.own (eg.trans eg5) hho5 (by omega) hx6;have ho6:OwR 3 encTk g6 h1.size 35 vt2 (toks++[(kd,(i:Int),((i+L:Nat):Int))]):=OwR.of ho6 rfl rfl;have hMa:¬(g1.size=h.size∨Array.size g6≤g1.size):=by omega
   have hMb:¬(g2.size=h.size∨Array.size g6≤g2.size):=by omega
   refine xqd 1 [0,1,4,5,6,7,8,19] rfl ?_;refine G.draw (fun b=>b=Array.size h∨Array.size g6≤b) (fun i=>Nat.blt i 6) (sz:=5) (listed:= #[false,false,false,false,false]) Tryz.func13 H.mixed rfl rfl rfl ?_;refine xtp 0 1 (by kernel_rfl) rfl (fun h' e=>OpP.fieldAddr (off:=2) Tryz.underlying35 rfl rfl H.sz3 rfl) ?_;refine xtp 1 3 (by kernel_rfl) rfl (fun h' e=>OpP.load H.ag3 rfl (e.cell hMa (d7.cell (i:=2) rfl))) ?_;refine xtp 2 7 (by kernel_rfl) rfl (fun h' e=>OpP.loadRowN H.ag27 H.sz27 rfl (e.rowAt hMb d8.row) (by first|rfl|(simp;done)|(simp;omega))) ?_;refine xtq 3 15 (by kernel_rfl) rfl ?_;refine xt0 4 31 (by kernel_rfl) rfl (OpX.storeBlk H.sz27 rfl rfl kS6 (by first|rfl|(simp;done)|(simp;omega)) (by first|decide|exact of_decide_eq_true rfl|(simp;done)|(simp;omega)) (lst_one nx)) ?_;rintro _ g7 ⟨rfl,kS7,x7,y7⟩;refine⟨fun _=>x7.mono (fun _ _ k=>.inl k),?_⟩;have kS7:Blk g7 h.size 27 (encLSt nx):=kS7;have ho7:OwR 3 encTk g7 h1.size 35 vt2 (toks++[(kd,(i:Int),((i+L:Nat):Int))]):=OwnH.ext x7 ho6 (fun b hb (k:b=h.size)=>by have:=(OwnH.lt ho6 hb).1;omega);refine RD.done (by kernel_rfl) ?_;refine xu [0,1,4,5,6,7,8,19] rfl ?_;refine G.blkEnd ?_;exact ih (i+L,nx,vt2,toks++[(kd,(i:Int),((i+L:Nat):Int))]) _ _ ⟨rfl,rfl,rfl,rfl,rfl,trivial⟩ ⟨⟨by show i+L≤s.length;omega,by simp;omega,hnI⟩,Ext0.only e06 x7 (by omega),by have:=x7.size;show h1.size≤g7.size;omega,kS7,ho7,by simpa using hcon⟩ (by show s.length+1-(i+L)<s.length+1-i;omega)
 · obtain rfl:i=s.length:=by omega
   have hone:=one_out (h:=g) (p:=p) (b:=false) (fun g' eg'=>lnone_at (k.ext0 (eg.trans eg'))) s (s.length:Nat) hs st (.inr (.inr (by omega)));rw[List.drop_length,allG_nil] at hcon;refine G.block rfl rfl ?_;refine xra Tryz.func13 3 rfl ?_;refine xp rfl (OpP.loadRowN H.ag27 H.sz27 rfl kS.row (by first|rfl|(simp;done)|(simp;omega))) ?_;refine xo rfl (OpX.call (vs:=[_,_,_,_]) Tryz.func25 rfl H.nm25 rfl (CallsH.toX (hone))) ?_;rintro _ g1 ⟨rfl,f1⟩;refine xqm 4 rfl ?_;refine xo rfl (OpX.allocN H.zr35) ?_;rintro _ g2 ⟨rfl,c7,f2,y2⟩;refine xo rfl (OpX.allocN H.zr27) ?_;rintro _ g3 ⟨rfl,c8,f3,y3⟩;refine RW.op0 rfl rfl rfl (OpX.storeBlk H.sz35 rfl rfl (c7.ext0 f3) (by first|rfl|(simp;done)|(simp;omega)) (by first|decide|exact of_decide_eq_true rfl|(simp;done)|(simp;omega)) (tk_one _)) ?_;rintro _ g4 ⟨rfl,d7,x4,y4⟩;have d7:Blk g4 g1.size 35 (encTk (0,0,0)):=d7;have yz1:=f1.size;have yz2:=f2.size;have yz4:=x4.size;refine RW.op0 rfl rfl rfl (OpX.storeBlk H.sz27 rfl rfl ((c8.ext x4 (show ¬g2.size=g1.size by omega))) (by first|rfl|(simp;done)|(simp;omega)) (by first|decide|exact of_decide_eq_true rfl|(simp;done)|(simp;omega)) (lst_one st)) ?_;rintro _ g5 ⟨rfl,d8,x5,y5⟩;have d7:=d7.ext x5 (show ¬g1.size=g2.size by omega);have yz5:=x5.size;have eg5:Ext0 g g5:=Ext0.only (Ext0.only ((f1.trans f2).trans f3) x4 (by omega)) x5 (by omega);have hho5:=ho.ext0 eg5;have kS5:=kS.ext0 eg5;refine xqd 1 [0,1,4,5,6,7,8] rfl ?_;refine G.seq rfl ?_;refine G.block rfl rfl ?_;refine xr Tryz.func13 rfl ?_;refine xp rfl (OpP.fieldAddr (off:=2) Tryz.underlying35 rfl rfl H.sz3 rfl) ?_;refine xp rfl (OpP.load H.ag3 rfl (d7.cell (i:=2) rfl)) ?_;refine xqd 3 [0,1,4,5,6,7,8,19] rfl ?_;refine G.cond rfl rfl (fun _=>?_) (fun hc=>absurd hc (by simp));have hMa:¬(h.size=h.size∧Array.size g5≤h.size):=by omega
   refine G.exit rfl rfl ?_;refine G.seq rfl ?_;refine G.draw (fun b=>Array.size g5≤b) (fun i=>Nat.blt i 5) (sz:=4) (listed:= #[false,false,false,false]) Tryz.func13 H.mixed rfl rfl rfl ?_;refine xtq 0 1 (by kernel_rfl) rfl ?_;refine xtp 1 3 (by kernel_rfl) rfl (fun h' e=>OpP.loadRowN H.ag27 H.sz27 rfl (e.rowAt (by omega) kS5.row) (by first|rfl|(simp;done)|(simp;omega))) ?_;refine xtq 2 7 (by kernel_rfl) rfl ?_;refine xt0 3 15 (by kernel_rfl) rfl (OpX.storeBlk H.sz27 rfl rfl kS5 (by first|rfl|(simp;done)|(simp;omega)) (by first|decide|exact of_decide_eq_true rfl|(simp;done)|(simp;omega)) (lst_one st)) ?_;rintro _ g7 ⟨rfl,kS7,x7,y7⟩;refine⟨fun _=>(same_ext kS5 kS7 x7).mono (fun _ _ k=>k.elim),?_⟩;have kS7:Blk g7 h.size 27 (encLSt st):=kS7;have e7:=same_ext kS5 kS7 x7;refine RD.done (by kernel_rfl) ?_;refine xu [0,1,4,5,6,7,8,19] rfl ?_;refine G.retC Tryz.func13 rfl (.cons (ResOk.tmp rfl) (.cons (ResOk.rowN H.ag27 H.sz27 rfl (kS7.row) (by first|rfl|(simp;done)|(simp;omega))) (.nil))) ?_;rw[←hcon];exact⟨_,rfl,⟨_,rfl,by show SlR eTk g7 _ _ (toks++[]);rw[List.append_nil];exact OwR.read (hho5.ext0 e7) (fun b hb k=>k)⟩,(eg.trans eg5).trans e7⟩
end
end Go.Proofs.YtfegacfjgjaghaaGreatDoor
