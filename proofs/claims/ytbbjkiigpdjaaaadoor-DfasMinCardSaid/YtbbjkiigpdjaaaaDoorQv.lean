/- What the proof of the statement leans on (part 22). -/
import Derived.Test.YtbbjkiigpdjaaaaDoorQu

namespace Go.Proofs.YtbbjkiigpdjaaaaDoor
def sB (S s':List Nat) (lo:Nat):Prop:=∀q,lo<=q->q<s'.length->S[q]? =s'[q]?
theorem sB.sub {S s s':List Nat}{lo lo':Nat}(h:sB S s lo) (hlo:lo<=lo') (hle:s'.length<=s.length) (hpre:∀i,i<s'.length->s[i]? =s'[i]?):sB S s' lo':=fun q h1 h2=>by
  rw[h q (by omega) (by omega),hpre q h2]
section
variable {F:List aH}{S:List Nat}(n:Nat)
def C0 (F:List aH) (S:List Nat) (lo hi:Nat) (p:cL) (bh bh':List (List Bool)) (A B:Nat->Nat->Prop):Prop :=
  ∃P Fol,Pos F S P lo hi p.null (On p.first) (On p.last) Fol A B/\∀a b,Bh bh' a b↔Bh bh a b\/Fol a b
theorem qg (st:jb) (b:Bool){A B:Nat->Nat->Prop}(h:b=true->A=B) (h':b=false->∀n j,¬A n j):Pos F S (fun _=>0) st.1.length st.1.length b (On (bO n)) (On (bO n)) (fun _ _=>False) A B :=
  (Pos.nil _ h h').congr (fun q=>⟨fun h=>kC n q h,fun h=>h.elim⟩) (fun q=>⟨fun h=>kC n q h,fun h=>h.elim⟩) (fun _ _=>Iff.rfl)
mutual
theorem qj:∀(x:Nd) (ss:List aH) (to:Nat) (st:jb),fD n st->ig x=true->st.1.length+cnt x<=n->sB S (bJ n x st).2.1 st.1.length->lJ F (lay x ss to).1 ss.length ->
    C0 F S st.1.length (bJ n x st).2.1.length (bJ n x st).1 st.2 (bJ n x st).2.2 (fun m j=>cP F m (lay x ss to).2 j) (fun m j=>cP F m to j)
  |.mk k s kids,ss,to,st,hok,hw,hn,hS,hs=>by
    have hwl:ic kids=true:=by simp only[ig,Bool.and_eq_true] at hw;exact hw.2
    simp only[cnt] at hn;rw[bJ] at hS ⊢;rw[lay] at hs ⊢
    by_cases h1:k=1
    · simp only[if_pos h1,List.length_append,List.length_singleton] at hS hs hn ⊢;have hx:F[ss.length]? =some ⟨1,s,[to],0⟩:=by rw[hs _ (Nat.le_refl _) (by simp)];simp
      have hq:S[st.1.length]? =some s:=by rw[hS _ (Nat.le_refl _) (by simp)];simp
      refine⟨fun _=>ss.length,fun _ _=>False,Pos.congr (Fi:=fun q=>q=st.1.length) (La:=fun q=>q=st.1.length) (Fol:=fun _ _=>False) ?_ (fun q=>kB (by omega) q) (fun q=>kB (by omega) q) (fun _ _=>Iff.rfl),fun a b=>by simp⟩;refine⟨fun q h=>by omega,fun q h=>by omega,fun _ _ h=>h.elim,fun q h1 h2=>?_,fun m j hj h=>?_,fun q h=>⟨0,.refl _⟩,fun h=>by cases h⟩
      · obtain rfl:q=st.1.length:=by omega
        exact⟨s,to,hq,hx,fun m j _ h=>.inr ⟨rfl,m,Nat.le_refl _,h⟩,fun _ h=>h.elim,fun _ m j _ h=>⟨m,h⟩⟩
      · cases h with
        |refl=>exact .inl ⟨_,rfl,rfl⟩
        |step hy hk _ _=>rw[hx] at hy;cases hy;cases hk
    · simp only[if_neg h1] at hS hs hn ⊢
      by_cases h2:k=2
      · simp only[if_pos h2] at hS hs ⊢;exact rB kids ss to ⟨true,bO n,bO n⟩ st hok (gO n _) hwl (by omega) st.1.length (Nat.le_refl _) hS hs _ _ (Bh st.2) (fun m j=>cP F m (aD kids ss to).2 j) (qg n st true (fun _=>rfl) (fun h=>by cases h)) (fun a b=>⟨fun h=>.inl h,fun h=>h.elim id False.elim⟩)
      · simp only[if_neg h2] at hS hs ⊢
        by_cases h3:k=3
        · simp only[if_pos h3] at hS hs ⊢;have hl:=cj kids ss to;have hx:F[(aC kids ss to).1.length]? =some ⟨0,0,(aC kids ss to).2,0⟩:=by rw[hs _ (by omega) (by simp)];simp
          obtain⟨P,Fol,hP,hB⟩:=rE kids ss to ⟨false,bO n,bO n⟩ st hok (gO n _) hwl (by omega) st.1.length (Nat.le_refl _) hS (fun i h1 h2=>by rw[hs i h1 (by simp;omega),List.getElem?_append_left h2]) _ _ (Bh st.2) (fun _ _=>False) (qg n st false (fun h=>by cases h) (fun _ _ _ h=>h)) (fun a b=>⟨fun h=>.inl h,fun h=>h.elim id False.elim⟩);refine⟨P,Fol,hP.via (fun m j hj h=>?_) (fun m j h=>?_),hB⟩
          · obtain⟨m',q,e,hq,h⟩:=h.fork hx rfl hj;exact⟨m',by omega,.inr ⟨q,hq,h⟩⟩
          · rcases h with h|⟨q,hq,h⟩
            · exact h.elim
            · exact⟨m+1,.step hx rfl hq h⟩
        · simp only[if_neg h3] at hS hs ⊢;have k1:=oG n kids st hok
          by_cases h6:k=6
          · have h45:¬(k=4\/k=5):=by omega
            have h4:¬k=4:=by omega
            have h5:¬k=5:=by omega
            simp only[if_pos h6,if_neg h45] at hS hs ⊢;have hl:=cu kids ss to;have hx:F[(aM kids ss to).1.length]? =some ⟨0,0,[(aM kids ss to).2,to],0⟩:=by rw[hs _ (by omega) (by simp)];simp
            obtain⟨P,Fol,hP,hB⟩:=rq kids ss to st hok hwl (by omega) hS (fun i h1 h2=>by rw[hs i h1 (by simp;omega),List.getElem?_append_left h2]);exact⟨P,Fol,hP.opt hx rfl rfl,hB⟩
          · simp only[if_neg h6] at hs ⊢
            by_cases h45:k=4\/k=5
            · simp only[if_pos h45] at hS hs ⊢;have hl:=cu kids (ss++[⟨0,0,[],0⟩]) ss.length;simp only[List.length_append,List.length_singleton] at hl
              have hx:F[ss.length]? =some ⟨0,0,[(aM kids (ss++[⟨0,0,[],0⟩]) ss.length).2,to],0⟩:=by
                rw[hs _ (Nat.le_refl _) (by simp;omega)];simp[List.getElem?_set];omega
              obtain⟨P,Fol,hP,hB⟩:=rq kids (ss++[⟨0,0,[],0⟩]) ss.length st hok hwl (by omega) hS (fun i h1 h2=>by
                simp only[List.length_append,List.length_singleton] at h1;rw[hs i (by omega) (by simp;omega),List.getElem?_set_ne (by omega)])
              have hlp:=hP.loop hx rfl rfl
              have hB2:∀a b,Bh (aQ (aU n kids st).1.last (aU n kids st).1.first (aU n kids st).2.2) a b↔Bh st.2 a b\/Fol a b\/On (aU n kids st).1.last a/\On (aU n kids st).1.first b:=fun a b=>by
                rw[lE k1.1.last k1.1.first k1.2.1,hB a b,or_assoc]
              by_cases h4:k=4
              · subst h4;exact⟨P,_,by simpa using hlp.2,hB2⟩
              · have h5:k=5:=by omega
                subst h5;exact⟨P,_,by simpa using hlp.1,hB2⟩
            · simp only[if_neg h45] at hS hs ⊢;exact⟨_,_,qg n st true (fun _=>rfl) (fun h=>by cases h),fun a b=>by simp⟩
theorem rB:∀(l:List Nd) (ss:List aH) (to:Nat) (p:cL) (st:jb),fD n st->cM n p->ic l=true->st.1.length+cE l<=n->∀lo,lo<=st.1.length->sB S (bB n l p st).2.1 st.1.length->lJ F (aD l ss to).1 ss.length ->
    ∀(P0:Nat->Nat) (Fol0 B0:Nat->Nat->Prop) (A:Nat->Nat->Prop),Pos F S P0 lo st.1.length p.null (On p.first) (On p.last) Fol0 A (fun m j=>cP F m (aD l ss to).2 j)->(∀a b,Bh st.2 a b↔B0 a b\/Fol0 a b) ->
    ∃P Fol,Pos F S P lo (bB n l p st).2.1.length (bB n l p st).1.null (On (bB n l p st).1.first) (On (bB n l p st).1.last) Fol A (fun m j=>cP F m to j)/\∀a b,Bh (bB n l p st).2.2 a b↔B0 a b\/Fol a b
  | [],ss,to,p,st,hok,hp,hw,hn,lo,hlo,hS,hs,P0,Fol0,B0,A,hG,hB=>by
    rw[bB];rw[aD] at hG;exact⟨P0,Fol0,hG,hB⟩
  |x::r,ss,to,p,st,hok,hp,hw,hn,lo,hlo,hS,hs,P0,Fol0,B0,A,hG,hB=>by
    simp only[ic,Bool.and_eq_true] at hw;simp only[cE] at hn;rw[bB] at hS ⊢;rw[aD] at hs hG;have k1:=dK n x st hok;have hle:=k1.2.2.1;have hle2:=k1.2.2.2 hw.1;have hok2:=iW (S:=(bJ n x st).2.1) hp.last k1.1.first k1.2.1
    have hpre:=mF n r (bA p (bJ n x st).1) ((bJ n x st).2.1,aQ p.last (bJ n x st).1.first (bJ n x st).2.2);have hmono:=(lC n r (bA p (bJ n x st).1) ((bJ n x st).2.1,aQ p.last (bJ n x st).1.first (bJ n x st).2.2) (fA hp k1.1) hok2).2.2.1;have hl:=eu r ss to;have hl2:=cD x (aD r ss to).1 (aD r ss to).2;obtain⟨P1,Fol,hx,hxB⟩:=qj x (aD r ss to).1 (aD r ss to).2 st hok hw.1 (by omega) (hS.sub (Nat.le_refl _) hmono hpre) (fun i h1 h2=>hs i (by omega) h2);have hcat:=hG.cat hx hlo hle
    have hcat':=hcat.congr (Fi':=On (bA p (bJ n x st).1).first) (La':=On (bA p (bJ n x st).1).last) (fun q=>by
      simp only[bA];cases p.null with
      |true=>simp only[if_pos,true_and];exact nB (by rw[hp.first,k1.1.first]) q
      |false=>simp) (fun q=>by
      simp only[bA];cases (bJ n x st).1.null with
      |true=>simp only[if_pos,true_and];rw[nB (by rw[hp.last,k1.1.last]) q,or_comm]
      |false=>simp) (fun _ _=>Iff.rfl)
    obtain⟨P2,Fol',hG',hB'⟩:=rB r ss to (bA p (bJ n x st).1) ((bJ n x st).2.1,aQ p.last (bJ n x st).1.first (bJ n x st).2.2) hok2 (fA hp k1.1) hw.2 (by simp only;omega) lo (by simp only;omega) (fun q h1 h2=>hS q (by simp only at h1;omega) h2)
      (fun i h1 h2=>by rw[hs i h1 (by omega),eO x _ _ i h2]) _
      (fun a b=>Fol0 a b\/Fol a b\/On p.last a/\On (bJ n x st).1.first b) B0 A hcat' (fun a b=>by
        rw[lE hp.last k1.1.first k1.2.1,hxB a b,hB a b];simp only[or_assoc])
    exact⟨P2,Fol',hG',hB'⟩
theorem rE:∀(l:List Nd) (ss:List aH) (to:Nat) (p:cL) (st:jb),fD n st->cM n p->ic l=true->st.1.length+cE l<=n->∀lo,lo<=st.1.length->sB S (bC n l p st).2.1 st.1.length->lJ F (aC l ss to).1 ss.length ->
    ∀(P0:Nat->Nat) (Fol0 B0:Nat->Nat->Prop) (A:Nat->Nat->Prop),Pos F S P0 lo st.1.length p.null (On p.first) (On p.last) Fol0 A (fun m j=>cP F m to j)->(∀a b,Bh st.2 a b↔B0 a b\/Fol0 a b) ->
    ∃P Fol,Pos F S P lo (bC n l p st).2.1.length (bC n l p st).1.null (On (bC n l p st).1.first) (On (bC n l p st).1.last) Fol (fun m j=>A m j\/∃q∈(aC l ss to).2,cP F m q j) (fun m j=>cP F m to j)/\∀a b,Bh (bC n l p st).2.2 a b↔B0 a b\/Fol a b
  | [],ss,to,p,st,hok,hp,hw,hn,lo,hlo,hS,hs,P0,Fol0,B0,A,hG,hB=>by
    rw[bC];rw[aC];exact⟨P0,Fol0,hG.via (fun m j _ h=>h.elim (fun h=>⟨m,Nat.le_refl _,h⟩) (fun⟨q,hq,_⟩=>absurd hq List.not_mem_nil)) (fun m j h=>⟨m,.inl h⟩),hB⟩
  |x::r,ss,to,p,st,hok,hp,hw,hn,lo,hlo,hS,hs,P0,Fol0,B0,A,hG,hB=>by
    simp only[ic,Bool.and_eq_true] at hw;simp only[cE] at hn;rw[bC] at hS ⊢;rw[aC] at hs ⊢;have k1:=dK n x st hok;have hle:=k1.2.2.1;have hle2:=k1.2.2.2 hw.1;have hpre:=mG n r (cI p (bJ n x st).1) (bJ n x st).2;have hmono:=(lD n r (cI p (bJ n x st).1) (bJ n x st).2 (fC hp k1.1) k1.2.1).2.2.1;have hl:=cD x ss to;have hl2:=cj r (lay x ss to).1 to;obtain⟨P1,Fol,hx,hxB⟩:=qj x ss to st hok hw.1 (by omega) (hS.sub (Nat.le_refl _) hmono hpre) (fun i h1 h2=>by rw[hs i h1 (by simp only;omega)];exact gR r _ _ i h2);have hcat:=(hG.alt hx hlo hle).congr (Fi':=On (cI p (bJ n x st).1).first) (La':=On (cI p (bJ n x st).1).last) (fun q=>nB (by rw[hp.first,k1.1.first]) q) (fun q=>nB (by rw[hp.last,k1.1.last]) q) (fun _ _=>Iff.rfl)
    obtain⟨P2,Fol',hG',hB'⟩:=rE r (lay x ss to).1 to (cI p (bJ n x st).1) (bJ n x st).2 k1.2.1 (fC hp k1.1) hw.2 (by omega) lo (by omega) (fun q h1 h2=>hS q (by omega) h2) (fun i h1 h2=>hs i (by omega) h2) _
      (fun a b=>Fol0 a b\/Fol a b) B0 _ hcat (fun a b=>by
        rw[hxB a b,hB a b];simp only[or_assoc])
    refine⟨P2,Fol',hG'.via (fun m j _ h=>⟨m,Nat.le_refl _,?_⟩) (fun m j h=>⟨m,?_⟩),hB'⟩
    · rcases h with h|⟨q,hq,h⟩
      · exact .inl (.inl h)
      · rcases List.mem_cons.1 hq with rfl|hq
        · exact .inl (.inr h)
        · exact .inr ⟨q,hq,h⟩
    · rcases h with (h|h)|⟨q,hq,h⟩
      · exact .inl h
      · exact .inr ⟨_,List.mem_cons_self,h⟩
      · exact .inr ⟨q,List.mem_cons_of_mem _ hq,h⟩
theorem rq:∀(l:List Nd) (ss:List aH) (to:Nat) (st:jb),fD n st->ic l=true->st.1.length+cE l<=n->sB S (aU n l st).2.1 st.1.length->lJ F (aM l ss to).1 ss.length ->
    C0 F S st.1.length (aU n l st).2.1.length (aU n l st).1 st.2 (aU n l st).2.2 (fun m j=>cP F m (aM l ss to).2 j) (fun m j=>cP F m to j)
  | [],ss,to,st,hok,hw,hn,hS,hs=>by
    rw[aU,aM];exact⟨_,_,qg n st true (fun _=>rfl) (fun h=>by cases h),fun a b=>by simp⟩
  |x::r,ss,to,st,hok,hw,hn,hS,hs=>by
    simp only[ic,Bool.and_eq_true] at hw;simp only[cE] at hn;rw[aU] at hS ⊢;rw[aM] at hs ⊢;exact qj x ss to st hok hw.1 (by omega) hS hs
end
end
theorem yQ {F:List aH}{a j:Nat}{x:aH}(hx:F[a]? =some x) (hk:x.kind≠0) (h:sN F a j):j=a:=by
  cases h with
  |refl=>rfl
  |step hy hk' _ _=>rw[hx] at hy;cases hy;exact absurd hk' hk
structure uY (F:List aH) (R:dN) (b a:Nat) (P t:Nat->Nat):Prop where
  t0:t 0=b
  st:∀q,0<q->q<R.sets.length->∃s,R.sets[q]? =some s/\F[P q]? =some ⟨1,s,[t q],0⟩
  rc:∀p,p<R.sets.length->∀j,n4 F j->(sN F (t p) j↔(∃q,Bh R.behind p q/\P q=j)\/(On R.last p/\j=a))
  br:∀p q,p<R.sets.length->Bh R.behind p q->0<q/\q<R.sets.length
theorem zj {x:Nd}(hw:ig x=true){F ss:List aH}{a i:Nat}(ha:F[a]? =some ⟨2,0,[],i⟩) (hs:lJ F (lay x ss a).1 ss.length):∃P t,uY F (fq x) (lay x ss a).2 a P t:=by
  have h0:fD (cnt x+1) ([0],List.replicate (cnt x+1) (bO (cnt x+1))):=⟨by simp,fun b hb=>by rw[(List.mem_replicate.1 hb).2];exact bZ _⟩
  have k:=dK (cnt x+1) x ([0],List.replicate (cnt x+1) (bO (cnt x+1))) h0;have hrows:=k.2.1.rows;have hlast:=k.1.last;obtain⟨P,Fol,hP,hB⟩:=qj (S:=(fq x).sets) (cnt x+1) x ss a ([0],List.replicate (cnt x+1) (bO (cnt x+1))) h0 hw (by simp;omega) (fun q _ _=>rfl) hs;simp only[List.length_singleton] at hP hB
  have hB0:∀a b,¬Bh (List.replicate (cnt x+1) (bO (cnt x+1))) a b:=by
    rintro a b ⟨l,hl,ho⟩;rw[List.getElem?_replicate] at hl;split at hl
    · cases hl;exact kC _ _ ho
    · cases hl
  have hb0:∀q,Bh (fq x).behind 0 q↔On (bJ (cnt x+1) x ([0],List.replicate (cnt x+1) (bO (cnt x+1)))).1.first q:=fun q=>by
    simp only[fq,Bh];rw[List.getElem?_set_self (by omega)];simp
  have hbp:∀p q,0<p->(Bh (fq x).behind p q↔Fol p q):=fun p q hp=>by
    have:Bh (fq x).behind p q↔Bh (bJ (cnt x+1) x ([0],List.replicate (cnt x+1) (bO (cnt x+1)))).2.2 p q:=by
      simp only[fq,Bh];rw[List.getElem?_set_ne (by omega)]
    rw[this,hB p q];exact⟨fun h=>h.elim (fun h=>(hB0 _ _ h).elim) id,.inr⟩
  have he0:On (fq x).last 0↔(bJ (cnt x+1) x ([0],List.replicate (cnt x+1) (bO (cnt x+1)))).1.null=true:=by
    simp only[fq,On];rw[List.getElem?_set_self (by omega)];simp
  have hep:∀p,0<p->(On (fq x).last p↔On (bJ (cnt x+1) x ([0],List.replicate (cnt x+1) (bO (cnt x+1)))).1.last p):=fun p hp=>by
    simp only[fq,On];rw[List.getElem?_set_ne (by omega)]
  have hsl:(bJ (cnt x+1) x ([0],List.replicate (cnt x+1) (bO (cnt x+1)))).2.1.length=(fq x).sets.length:=rfl;rw[hsl] at hP
  have hto:∀q,0<q->q<(fq x).sets.length->∃s t,(fq x).sets[q]? =some s/\F[P q]? =some ⟨1,s,[t],0⟩:=fun q h1 h2=>by
    obtain⟨s,t,e1,e2,_⟩:=hP.st q (by omega) h2;exact⟨s,t,e1,e2⟩
  have h2:(⟨2,0,[],i⟩:aH).kind≠0:=(by decide:(2:Nat)≠0)
  refine⟨P,fun q=>if q=0 then (lay x ss a).2 else match F[P q]? with|some y=>y.to.headD 0|none=>0,if_pos rfl,fun q h1 h2=>?_,fun p hp j hj=>?_,fun p q hp h=>?_⟩
  · obtain⟨s,t,e1,e2⟩:=hto q h1 h2;refine⟨s,e1,?_⟩;rw[if_neg (by omega),e2];rfl
  · rcases Nat.eq_zero_or_pos p with rfl|hp0
    · rw[if_pos rfl,he0];constructor
      · intro h;obtain⟨n,hn⟩:=h.Dm
        rcases hP.en n j hj hn with ⟨q,hf,e⟩|⟨hn0,m,_,h⟩
        · exact .inl ⟨q,(hb0 q).2 hf,e⟩
        · exact .inr ⟨hn0,yQ ha h2 h.sW⟩
      · rintro(⟨q,hf,rfl⟩|⟨hn0,rfl⟩)
        · obtain⟨n,h⟩:=hP.ef q ((hb0 q).1 hf);exact h.sW
        · obtain⟨m,h⟩:=hP.ex hn0 0 j hj (.refl _);exact h.sW
    · obtain⟨s,t,e1,e2,e3,e4,e5⟩:=hP.st p (by omega) hp;rw[if_neg (by omega),e2]
      show sN F t j↔_
      rw[hep p hp0];constructor
      · intro h;obtain⟨n,hn⟩:=h.Dm
        rcases e3 n j hj hn with ⟨q,hf,e⟩|⟨hl,m,_,h⟩
        · exact .inl ⟨q,(hbp p q hp0).2 hf,e⟩
        · exact .inr ⟨hl,yQ ha h2 h.sW⟩
      · rintro(⟨q,hf,rfl⟩|⟨hl,rfl⟩)
        · obtain⟨n,h⟩:=e4 q ((hbp p q hp0).1 hf);exact h.sW
        · obtain⟨m,h⟩:=e5 hl 0 j hj (.refl _);exact h.sW
  · rcases Nat.eq_zero_or_pos p with rfl|hp0
    · have:=hP.fr q ((hb0 q).1 h);omega
    · have:=hP.gr p q ((hbp p q hp0).1 h);omega
theorem wg:∀(rules:List By) (i:Nat) (ss:List aH) (t:List Nat) (ss':List aH) (t':List Nat),cZ i rules ss t= .inr (ss',t') ->
    (∀j,j<ss.length->ss'[j]? =ss[j]?)/\ss.length<=ss'.length/\∃t2,t'=t++t2/\t2.length=rules.length/\∀(k:Nat) (s:By),rules[k]? =some s->∃b a,t2[k]? =some b/\(∃i,ss'[a]? =some ⟨2,0,[],i⟩)/\∀F,(∀j,j<ss'.length->F[j]? =ss'[j]?)->∃P t,uY F (fq (az s).1) b a P t
  | [],i,ss,t,ss',t',h=>by
    rw[cZ] at h;cases h;exact⟨fun _ _=>rfl,Nat.le_refl _,[],by simp,rfl,fun k s h=>by simp at h⟩
  |s::r,i,ss,t,ss',t',h=>by
    rw[cZ] at h;split at h
    · cases h
    · rename_i he;have he:(az s).2=0:=by simpa using he
      have hsm:=dB he;obtain⟨h1,h2,t2,ht2,htl,hst⟩:=wg r _ _ _ _ _ h;have hpre:=eO (az s).1 (ss++[⟨2,0,[],i⟩]) ss.length;have hlen:=cD (az s).1 (ss++[⟨2,0,[],i⟩]) ss.length;simp only[List.length_append,List.length_singleton] at hpre hlen;have ha:ss'[ss.length]? =some ⟨2,0,[],i⟩:=by rw[h1 _ (by omega),hpre _ (by omega)];simp
      refine⟨fun j hj=>?_,by omega,(lay (az s).1 (ss++[⟨2,0,[],i⟩]) ss.length).2::t2,by simp[ht2],by simp[htl],fun k s' hk=>?_⟩
      · rw[h1 j (by omega),hpre j (by omega),List.getElem?_append_left hj]
      · cases k with
        |zero =>
          simp at hk;subst hk;refine⟨_,ss.length,rfl,⟨i,ha⟩,fun F hF=>?_⟩;have hl:ss.length<ss'.length:=by omega
          exact zj hsm.2.1 (by rw[hF _ hl];exact ha) (fun j g1 g2=>by
            simp only[List.length_append,List.length_singleton] at g1;rw[hF j (by omega)];exact h1 j g2)
        |succ k=>exact hst k s' (by simpa using hk)
structure mU (F:List aH) (st:Nat) (rs:List dN) (P t:Nat->Nat->Nat) (a:Nat->Nat):Prop where
  start:∃bs,F[st]? =some ⟨0,0,bs,0⟩/\bs.length=rs.length/\∀(r:Nat) (b:Nat),bs[r]? =some b->b=t r 0
  each:∀(r:Nat) (R:dN),rs[r]? =some R->(∃b,uY F R b (a r) (P r) (t r))/\∃i,F[a r]? =some ⟨2,0,[],i⟩
theorem zv {rules:List By}{ss:List aH}{st:Nat}(h:cC rules= .inr (ss,st)):∃P t a,mU ss st (rules.map fun s=>fq (az s).1) P t a:=by
  unfold cC at h;split at h
  · cases h
  · split at h
    · cases h
    · rename_i ss0 tt hm;split at h
      · cases h
      · cases h;obtain⟨_,_,t2,ht2,htl,hst⟩:=wg _ _ _ _ _ _ hm;have ht:tt=t2:=by simpa using ht2
        subst ht
        have hall:∀r:Nat,∃(x:(Nat->Nat)×(Nat->Nat)×Nat),∀s,rules[r]? =some s->∃b,tt[r]? =some b/\(∃i,(ss0++[(⟨0,0,tt,0⟩:aH)])[x.2.2]? =some ⟨2,0,[],i⟩)/\uY (ss0++[(⟨0,0,tt,0⟩:aH)]) (fq (az s).1) b x.2.2 x.1 x.2.1:=fun r=>by
          cases hr:rules[r]? with
          |none=>exact⟨(id,id,0),fun s hs=>by cases hs⟩
          |some s =>
            obtain⟨b,a,hb,⟨i,hi⟩,hk⟩:=hst r s hr;obtain⟨P,t,k⟩:=hk (ss0++[⟨0,0,tt,0⟩]) (fun j hj=>List.getElem?_append_left hj)
            exact⟨(P,t,a),fun s' hs=>by
              cases hs;exact⟨b,hb,⟨i,by rw[List.getElem?_append_left (List.getElem?_eq_some_iff.1 hi).1];exact hi⟩,k⟩⟩
        obtain⟨f,hf⟩:=Classical.axiomOfChoice hall;refine⟨fun r=>(f r).1,fun r=>(f r).2.1,fun r=>(f r).2.2,⟨tt,by simp,by simp[htl],fun r b hb=>?_⟩,fun r R hR=>?_⟩
        · have hlt:=(List.getElem?_eq_some_iff.1 hb).1;obtain⟨s,hs⟩:∃s,rules[r]? =some s:=⟨_,List.getElem?_eq_getElem (by omega)⟩
          obtain⟨b',hb',_,k⟩:=hf r s hs;rw[hb] at hb';cases hb';exact k.t0.symm
        · rw[List.getElem?_map] at hR;obtain⟨s,hr,rfl⟩:=Option.map_eq_some_iff.1 hR;obtain⟨b',_,hi,k⟩:=hf r s hr;exact⟨⟨b',k⟩,hi⟩
theorem qB:∀{l m:List Nat},l.Pairwise (· < ·)->m.Pairwise (· < ·)->(∀j,j∈l↔j∈m)->l=m
  | [],[],_,_,_=>rfl
  | [],y::m,_,_,h=>absurd ((h y).2 (by simp)) List.not_mem_nil
  |x::l,[],_,_,h=>absurd ((h x).1 (by simp)) List.not_mem_nil
  |x::l,y::m,hl,hm,h=>by
    obtain⟨h1,h2⟩:=List.pairwise_cons.1 hl;obtain⟨h3,h4⟩:=List.pairwise_cons.1 hm
    have e:x=y:=by
      rcases List.mem_cons.1 ((h x).1 (by simp)) with e|e
      · exact e
      · have:=h3 x e
        rcases List.mem_cons.1 ((h y).2 (by simp)) with e'|e'
        · exact e'.symm
        · have:=h1 y e';omega
    subst e;rw[qB h2 h4 fun j=>?_];constructor
    · intro hj
      rcases List.mem_cons.1 ((h j).1 (by simp[hj])) with e|e
      · have:=h1 j hj;omega
      · exact e
    · intro hj
      rcases List.mem_cons.1 ((h j).2 (by simp[hj])) with e|e
      · have:=h3 j hj;omega
      · exact e
section
variable {F:List aH}{st:Nat}{rs:List dN}{P t:Nat->Nat->Nat}{a:Nat->Nat}
theorem CN {l:List Bool}{i:Nat}(h:On l i):i<l.length:=(List.getElem?_eq_some_iff.1 h).1
theorem qe (hg:Good F) (hst:st<F.length) (k:mU F st rs P t a) (hok:∀r∈rs,∃n,cz r n):∀(v:By) (j:Nat),j∈iP F st v.reverse↔n4 F j/\∃r R p,rs[r]? =some R/\On (fk R v.reverse) p/\sN F (t r p) j
  | [],j=>by
    obtain⟨bs,hbs,hbl,hb⟩:=k.start
    show j∈b9 F st↔_
    unfold b9;rw[if_neg (by omega),fy hg (fun i hi=>by simp at hi;omega)];constructor
    · rintro⟨x,hx,hk,i,hi,h⟩;have hi:i=st:=by simpa using hi
      subst hi;refine⟨⟨x,hx,hk⟩,?_⟩;obtain⟨n,hn⟩:=h.Dm;obtain⟨m,q,_,hq,h⟩:=hn.fork hbs rfl ⟨x,hx,hk⟩;have hq:q∈bs:=hq;obtain⟨r,hr⟩:=List.getElem?_of_mem hq;obtain⟨R,hR⟩:∃R,rs[r]? =some R:=⟨_,List.getElem?_eq_getElem (by have:=(List.getElem?_eq_some_iff.1 hr).1;omega)⟩
      obtain⟨n',hn'⟩:=hok R (List.mem_of_getElem? hR);refine⟨r,R,0,hR,(kB hn'.pos 0).2 rfl,?_⟩;rw[<-hb r q hr];exact h.sW
    · rintro⟨⟨x,hx,hk⟩,r,R,p,hR,hp,h⟩;obtain⟨n',hn'⟩:=hok R (List.mem_of_getElem? hR);obtain rfl:=(kB hn'.pos p).1 hp;obtain⟨q,hq⟩:∃q,bs[r]? =some q:=⟨_,List.getElem?_eq_getElem (by have:=(List.getElem?_eq_some_iff.1 hR).1;omega)⟩
      have e:=hb r q hq;exact⟨x,hx,hk,st,by simp,.step hbs rfl (List.mem_of_getElem? hq) (by rw[e];exact h)⟩
  |c::v,j=>by
    have ih:=qe hg hst k hok v;rw[List.reverse_cons,j8]
    show j∈cH F c (iP F st v.reverse)↔_
    unfold cH;rw[if_neg (by omega),fy hg (qx hg c _)];constructor
    · rintro⟨x,hx,hk,i,hi,h⟩;refine⟨⟨x,hx,hk⟩,?_⟩
      rcases (gG F c i _ []).1 hi with h0|⟨m,hm,y,hy,hs,hto⟩
      · cases h0
      · obtain⟨hm0,r,R,p,hR,hp,he⟩:=(ih m).1 hm;obtain⟨⟨b,kr⟩,i2,ha⟩:=k.each r R hR;obtain⟨n',hn'⟩:=hok R (List.mem_of_getElem? hR);have hpl:p<R.sets.length:=by have:=CN hp;rwa [j7 hn'] at this
        unfold iE at hs;rw[Bool.and_eq_true] at hs;have hk1:=of_decide_eq_true hs.1
        rcases (kr.rc p hpl m hm0).1 he with ⟨q,hq,e⟩|⟨_,e⟩
        · obtain⟨hq0,hql⟩:=kr.br p q hpl hq;obtain⟨s,hs1,hs2⟩:=kr.st q hq0 hql;rw[e,hy] at hs2;cases hs2;have hto:i=t r q:=by simpa using hto
          subst hto;refine⟨r,R,q,hR,?_,h⟩;rw[runR_snoc',nA hn' (j7 hn' _)];exact⟨⟨p,hp,hq,hq0,hql⟩,s,hs1,hs.2⟩
        · subst e;rw[ha] at hy;cases hy;exact absurd hk1 (by decide:¬(2:Nat)=1)
    · rintro⟨⟨x,hx,hk⟩,r,R,q,hR,hq,h⟩;obtain⟨⟨b,kr⟩,i2,ha⟩:=k.each r R hR;obtain⟨n',hn'⟩:=hok R (List.mem_of_getElem? hR);rw[runR_snoc',nA hn' (j7 hn' _)] at hq;obtain⟨⟨p,hp,hb,hq0,hql⟩,s,hs1,hs2⟩:=hq;have hpl:p<R.sets.length:=by have:=CN hp;rwa [j7 hn'] at this
      obtain⟨s',e1,e2⟩:=kr.st q hq0 hql;rw[hs1] at e1;cases e1;have hN:n4 F (P r q):=⟨_,e2,(by decide:(1:Nat)≠0)⟩
      refine⟨x,hx,hk,t r q,(gG F c _ _ []).2 (.inr ⟨P r q,(ih _).2 ⟨hN,r,R,p,hR,hp,(kr.rc p hpl _ hN).2 (.inl ⟨q,hb,rfl⟩)⟩,_,e2,?_,by simp⟩),h⟩;unfold iE;rw[Bool.and_eq_true];exact⟨rfl,hs2⟩
where
  runR_snoc' {r:dN}{w:By}{c:UInt8}:fk r (w++[c])=eX r (fk r w) c:=by simp[fk]
theorem o6 (F:List aH) (st:Nat) (v:By):(iP F st v.reverse).Pairwise (· < ·):=by
  cases v with
  |nil=>exact List.Pairwise.sublist (qy F st) List.pairwise_lt_range
  |cons c v =>
    rw[List.reverse_cons,j8];exact List.Pairwise.sublist (th F c _) List.pairwise_lt_range
theorem xu (hg:Good F) (hst:st<F.length) (k:mU F st rs P t a) (hok:∀r∈rs,∃n,cz r n){v w:By}(h:(rs.map fun r=>fk r v)=rs.map fun r=>fk r w):iP F st v=iP F st w:=by
  have h1:=qe hg hst k hok v.reverse;have h2:=qe hg hst k hok w.reverse;have s1:=o6 F st v.reverse;have s2:=o6 F st w.reverse;rw[List.reverse_reverse] at h1 h2 s1 s2;refine qB s1 s2 fun j=>?_
  rw[h1,h2]
  have hR:∀(r:Nat) (R:dN),rs[r]? =some R->fk R v=fk R w:=fun r R hr=>by
    have:=congrArg (fun l=>l[r]?) h;simpa [hr] using this
  constructor
  · rintro⟨hj,r,R,p,hr,hp,he⟩;exact⟨hj,r,R,p,hr,by rw[<-hR r R hr];exact hp,he⟩
  · rintro⟨hj,r,R,p,hr,hp,he⟩;exact⟨hj,r,R,p,hr,by rw[hR r R hr];exact hp,he⟩
theorem BZ (hg:Good F) (hst:st<F.length) (k:mU F st rs P t a) (hok:∀r∈rs,∃n,cz r n){v:By}(h:iP F st v≠[]):∃R∈rs,iZ (fk R v)=true:=by
  obtain⟨j,hj⟩:=List.exists_mem_of_ne_nil _ h;have h1:=qe hg hst k hok v.reverse;rw[List.reverse_reverse] at h1;obtain⟨_,r,R,p,hR,hp,_⟩:=(h1 j).1 hj;exact⟨R,List.mem_of_getElem? hR,(uB _).2 ⟨p,hp⟩⟩
end
end Go.Proofs.YtbbjkiigpdjaaaaDoor
namespace Go.Proofs.YtbbjkiigpdjaaaaDoor
open Go
section
variable {d:aJ}
theorem yN {α β:Type}[DecidableEq β] (g:α->β):∀(l:List α) (m:List β),l.Nodup->(∀x∈l,g x∈m)->(∀x∈l,∀y∈l,g x=g y->x=y)->l.length<=m.length
  | [],_,_,_,_=>Nat.zero_le _
  |x::l,m,hn,hm,hi=>by
    obtain⟨h1,h2⟩:=List.nodup_cons.1 hn;have hx:=hm x (by simp);have:=yN g l (m.erase (g x)) h2 (fun y hy=>(List.mem_erase_of_ne (fun e=>h1 (by rw[<-hi y (by simp[hy]) x (by simp) e];exact hy))).2 (hm y (by simp[hy]))) (fun y hy z hz e=>hi y (by simp[hy]) z (by simp[hz]) e);rw[List.length_erase_of_mem hx] at this;have:=List.length_pos_of_mem hx;rw[List.length_cons];omega
theorem Bz {rs:List dN}(hok:∀r∈rs,∃n,cz r n){v:By}{c:UInt8}(h:gv (gL rs (v++[c]))=true):gv (gL rs v)=true:=by
  unfold gv gL at *;rw[List.any_eq_true] at *;obtain⟨x,hx,hax⟩:=h;obtain⟨r,hr,rfl⟩:=List.mem_map.1 hx;refine⟨fk r v,List.mem_map.2 ⟨r,hr,rfl⟩,?_⟩;obtain⟨n,hn⟩:=hok r hr;cases hq:iZ (fk r v) with
  |true=>rfl
  |false=>rw[qP hn [c] v hq] at hax;cases hax
theorem w9.has {rs:List dN}(hok:∀r∈rs,∃n,cz r n){L:List Pl}{d:aJ}(k:w9 rs L d) (hL:L.length=d.next.length):∀v:By,gv (gL rs v.reverse)=true->∃i:Nat,L[i]? =some (gL rs v.reverse)
  | [],_=>⟨0,k.first⟩
  |c::v,h=>by
    rw[List.reverse_cons] at h ⊢;obtain⟨i,hi⟩:=k.has hok hL v (Bz hok h)
    rcases k.to hL hi c with ⟨h1,_⟩|⟨_,i2,_,h3⟩
    · rw[jo,h] at h1;cases h1
    · rw[jo] at h3;exact⟨i2,h3⟩
section
variable {F:List aH}{st:Nat}{rs:List dN}{P t:Nat->Nat->Nat}{a:Nat->Nat}
structure ES (F:List aH) (st:Nat) (ls:List (List Nat)):Prop where
  once:ls.Nodup
  run:∀l∈ls,l≠[]/\∃v,l=iP F st v
theorem yO (hg:Good F) (hst:st<F.length) (k:mU F st rs P t a) (hok:∀r∈rs,∃n,cz r n){L:List Pl}(kp:w9 rs L d) (hL:L.length=d.next.length){ls:List (List Nat)}(h:ES F st ls):ls.length<=L.length:=by
  have hv:∀l:List Nat,∃v:By,l∈ls->l=iP F st v:=fun l=>by
    by_cases hl:l∈ls
    · obtain⟨v,hv⟩:=(h.run l hl).2;exact⟨v,fun _=>hv⟩
    · exact⟨[],fun q=>absurd q hl⟩
  obtain⟨f,hf⟩:=Classical.axiomOfChoice hv;refine yN (fun l=>gL rs (f l)) ls L h.once (fun l hl=>?_) (fun l hl m hm e=>?_)
  · have e:=hf l hl;obtain⟨R,hR,ha⟩:=BZ hg hst k hok (v:=f l) (by rw[<-e];exact(h.run l hl).1);have:=kp.has hok hL (f l).reverse;rw[List.reverse_reverse] at this;obtain⟨i,hi⟩:=this (by unfold gv gL;exact List.any_eq_true.2 ⟨_,List.mem_map.2 ⟨R,hR,rfl⟩,ha⟩);exact List.mem_of_getElem? hi
  · rw[hf l hl,hf m hm];exact xu hg hst k hok e
theorem vJ {cur:List Nat}(hc:∃v,cur=iP F st v):∀(n b:Nat) (ls:List (List Nat)) (row:List Int),ES F st ls->ES F st (iQ F cur n b ls row).1
  | 0,_,_,_,h=>by rw[iQ];exact h
  |n+1,b,ls,row,h=>by
    rw[iQ];refine vJ hc n (b+1) _ _ ⟨(nq F cur ls b h.once).2.1,?_⟩;unfold cv;split
    · exact h.run
    · rename_i h0;split
      · exact h.run
      · intro l hl
        rcases List.mem_append.1 hl with hl|hl
        · exact h.run l hl
        · have e:l=cH F (UInt8.ofNat b) cur:=by simpa using hl
          obtain⟨v,hv⟩:=hc;refine⟨fun q=>h0 (by rw[<-e,q];rfl),v++[UInt8.ofNat b],?_⟩;rw[e,j8,hv];rfl
theorem rY (hg:Good F) (hst:st<F.length) (k:mU F st rs P t a) (hok:∀r∈rs,∃n,cz r n){L:List Pl}{d:aJ}(kp:w9 rs L d) (hL:L.length=d.next.length) (h60:L.length<=2000) :
    ∀(n i:Nat) (ls:List (List Nat)) (next:List Row) (rule:List Int),ES F st ls->2002<=n+i->i<=ls.length->∃d',iG F n i ls next rule=some d'
  | 0,i,ls,next,rule,h,hn,hi=>by
    have:=yO hg hst k hok kp hL h;omega
  |n+1,i,ls,next,rule,h,hn,hi=>by
    rw[iG];split
    · exact⟨_,rfl⟩
    · rename_i cur hcur;have hlt:=(List.getElem?_eq_some_iff.1 hcur).1;have h':=vJ (h.run cur (List.mem_of_getElem? hcur)).2 256 0 ls [] h;have hlen:=yO hg hst k hok kp hL h';rw[if_neg (by omega)];have hpre:=(oz F cur 256 0 ls [] h.once).1.length_le;exact rY hg hst k hok kp hL h60 n (i+1) _ _ _ h' (by omega) (by omega)
theorem xX (hg:Good F) (hst:st<F.length) (k:mU F st rs P t a) (hok:∀r∈rs,∃n,cz r n){L:List Pl}(kp:w9 rs L d) (hL:L.length=d.next.length) (h60:L.length<=2000) (h0:(b9 F st).length≠0):∃d',eS F st= .inr d':=by
  obtain⟨d',h⟩:=rY hg hst k hok kp hL h60 2002 0 [b9 F st] [] [] ⟨by simp,fun l hl=>by
    have hl:l=b9 F st:=by simpa using hl
    subst hl;exact⟨fun q=>h0 (by rw[q];rfl),[],rfl⟩⟩ (Nat.le_refl _) (Nat.zero_le _)
  unfold eS;rw[if_neg h0,h];exact⟨d',rfl⟩
end
def Du (rules:List By) (d:aJ):Prop:=∃ss st,cC rules= .inr (ss,st)/\eS ss st= .inr d
theorem AD {rules:List By}(h:Du rules d) (w:By):gf (fun r=>∃s,rules[r]? =some s/\xb (az s).1 w) (d.bW 0 w):=by
  obtain⟨ss,st,hm,hd⟩:=h;obtain⟨_,L,h1,h2,h3⟩:=gE hd;have hM:=jv hm;rw[h1.Eb h2 w];have k:=s7 hM.good hM.stl w
  have e:(fun r=>∃n,Acc ss (jT ss r) n st w)=fun r=>∃s,rules[r]? =some s/\xb (az s).1 w:=by
    funext r;exact propext (hM.lng r w)
  rw[e] at k;exact k
end
end Go.Proofs.YtbbjkiigpdjaaaaDoor
namespace Go.Proofs.YtbbjkiigpdjaaaaDoor
mutual
def kS:Nd->Bool
  |.mk k _ kids=>(!(k ==3) || !kids.isEmpty) && jF kids
def jF:List Nd->Bool
  | []=>true
  |x::r=>kS x && jF r
end
theorem kT:∀(l m:List Nd),jF (l++m)=(jF l && jF m)
  | [],m=>by simp[jF]
  |x::l,m=>by simp only[List.cons_append,jF];rw[kT l m,Bool.and_assoc]
theorem nS (x:Nd):jF [x]=kS x:=by simp[jF]
theorem wu {k:Nat}{l:List Nd}(h:jF l=true):kS (aG k l)=true:=by
  match l,h with
  | [],_=>rfl
  | [n],h=>rw[nS] at h;exact h
  |a::b::l,h =>
    show kS (.mk k 0 (a::b::l))=true
    rw[kS,h];simp
theorem tn:∀(s:By) (n:Nd),kS n=true->kS (cg n s).1=true
  | [],n,h=>h
  |c::s,n,h=>by
    rw[cg];split
    · exact h
    · exact tn s _ (by rw[kS,nS,h];simp)
theorem wL {s r:By}{x:Nd}(h:bR s=some (x,r)):kS x=true:=by
  unfold bR at h;split at h
  · obtain⟨p,_,hp⟩:=Option.map_eq_some_iff.1 h;cases hp;rfl
  · obtain⟨p,_,hp⟩:=Option.map_eq_some_iff.1 h;cases hp;rfl
theorem Bw {rows:By->Option (Nd×By)}(hr:∀s x r,rows s=some (x,r)->kS x=true){s r:By}{x:Nd}(h:bP rows s=some (x,r)):kS x=true:=by
  cases s with
  |nil=>cases h
  |cons c s =>
    unfold bP at h;simp only at h;split at h
    · cases hs:rows s with
      |none=>rw[hs] at h;cases h
      |some q =>
        obtain⟨n,r1⟩:=q;rw[hs] at h;simp only at h;split at h
        · cases h;exact hr _ _ _ hs
        · cases h
    · split at h
      · exact wL h
      · split at h
        · cases h;rfl
        · split at h
          · obtain⟨p,_,hp⟩:=Option.map_eq_some_iff.1 h;cases hp;rfl
          · split at h
            · cases h
            · cases h;rfl
theorem ow {rows:By->Option (Nd×By)}(hr:∀s x r,rows s=some (x,r)->kS x=true):∀(n:Nat) (all row:List Nd) (s r:By) (x:Nd),jF all=true->jF row=true->dn rows n all row s=some (x,r)->kS x=true
  | 0,_,_,_,_,_,_,_,h=>by cases h
  |n+1,all,row,s,r,x,ha,hw,h=>by
    rw[dn] at h;have hj:jF (all++[aG 2 row])=true:=by rw[kT,ha,nS,wu hw];rfl
    split at h
    · split at h
      · exact ow hr n _ _ _ r x hj rfl h
      · cases h;exact wu hj
    · split at h
      · cases h
      · rename_i y r1 hp;refine ow hr n all (row++[y]) r1 r x ha ?_ h;unfold dh at hp;obtain⟨q,hq,he⟩:=Option.map_eq_some_iff.1 hp;have h1:=Bw hr (x:=q.1) (r:=q.2) hq;have h2:=tn q.2 q.1 h1;rw[he] at h2;rw[kT,hw,nS,h2];rfl
theorem tu:∀(d:Nat) (s r:By) (x:Nd),bk d s=some (x,r)->kS x=true
  | 0,_,_,_,h=>by cases h
  |d+1,s,r,x,h=>by
    rw[bk] at h;exact ow (fun s x r h=>tu d s r x h) _ [] [] s r x rfl rfl h
theorem xD (s:By):kS (az s).1=true:=by
  unfold az;split
  · rfl
  · split
    · rename_i x hx;unfold dm at hx;split at hx
      · rename_i n hn;cases hx;exact tu _ _ _ _ hn
      · cases hx
    · rfl
theorem sN.trans {ss:List aH}{i j k:Nat}(h:sN ss i j) (h2:sN ss j k):sN ss i k:=by
  induction h with
  |refl=>exact h2
  |step a b c _ ih=>exact .step a b c (ih h2)
def vi (F:List aH) (b to:Nat):Prop:=∃q,sN F b q/\(q=to\/∃x,F[q]? =some x/\x.kind≠0)
theorem vi.then {F:List aH}{b c to:Nat}(h:vi F b c) (h2:vi F c to):vi F b to:=by
  obtain⟨q,hq,rfl|hx⟩:=h
  · obtain⟨r,hr,k⟩:=h2;exact⟨r,hq.trans hr,k⟩
  · exact⟨q,hq,.inr hx⟩
theorem vi.refl {F:List aH}(b:Nat):vi F b b:=⟨b,.refl _,.inl rfl⟩
theorem ve {F:List aH}{b c to:Nat}{x:aH}(hx:F[b]? =some x) (hk:x.kind=0) (hc:c∈x.to) (h:vi F c to):vi F b to:=by
  obtain⟨q,hq,k⟩:=h;exact⟨q,.step hx hk hc hq,k⟩
mutual
theorem qk {F:List aH}:∀(x:Nd) (ss:List aH) (to:Nat),kS x=true->lJ F (lay x ss to).1 ss.length->vi F (lay x ss to).2 to
  |.mk k s kids,ss,to,ha,hs=>by
    rw[kS,Bool.and_eq_true] at ha;rw[lay] at hs ⊢
    by_cases h1:k=1
    · simp only[if_pos h1] at hs ⊢;have hx:F[ss.length]? =some ⟨1,s,[to],0⟩:=by rw[hs _ (Nat.le_refl _) (by simp)];simp
      exact⟨_,.refl _,.inr ⟨_,hx,Nat.one_ne_zero⟩⟩
    · simp only[if_neg h1] at hs ⊢
      by_cases h2:k=2
      · simp only[if_pos h2] at hs ⊢;exact rC kids ss to ha.2 hs
      · simp only[if_neg h2] at hs ⊢
        by_cases h3:k=3
        · simp only[if_pos h3] at hs ⊢;have hl:=cj kids ss to;have hx:F[(aC kids ss to).1.length]? =some ⟨0,0,(aC kids ss to).2,0⟩:=by rw[hs _ (by omega) (by simp)];simp
          have hne:kids≠[]:=by
            intro e;have:=ha.1;rw[e,h3] at this;simp at this
          obtain⟨q,hq,he⟩:=xN kids ss to ha.2 hne (fun i h1 h2=>by rw[hs i h1 (by simp;omega),List.getElem?_append_left h2]);exact ve hx rfl hq he
        · simp only[if_neg h3] at hs ⊢
          by_cases h6:k=6
          · simp only[if_pos h6] at hs ⊢;have hl:=cu kids ss to;have hx:F[(aM kids ss to).1.length]? =some ⟨0,0,[(aM kids ss to).2,to],0⟩:=by rw[hs _ (by omega) (by simp)];simp
            exact ve (c:=to) hx rfl (by simp) (.refl _)
          · simp only[if_neg h6] at hs ⊢
            by_cases h45:k=4\/k=5
            · simp only[if_pos h45] at hs ⊢;have hl:=cu kids (ss++[⟨0,0,[],0⟩]) ss.length;simp only[List.length_append,List.length_singleton] at hl
              have hx:F[ss.length]? =some ⟨0,0,[(aM kids (ss++[⟨0,0,[],0⟩]) ss.length).2,to],0⟩:=by
                rw[hs _ (Nat.le_refl _) (by simp;omega)];simp[List.getElem?_set];omega
              have ih:=xM kids (ss++[⟨0,0,[],0⟩]) ss.length ha.2 (fun i h1 h2=>by
                simp only[List.length_append,List.length_singleton] at h1;rw[hs i (by omega) (by simp;omega),List.getElem?_set_ne (by omega)])
              have hst:vi F ss.length to:=ve (c:=to) hx rfl (by simp) (.refl _)
              by_cases h5:k=5
              · simp only[if_pos h5];exact ih.then hst
              · simp only[if_neg h5];exact hst
            · simp only[if_neg h45] at hs ⊢;exact .refl _
theorem rC {F:List aH}:∀(l:List Nd) (ss:List aH) (to:Nat),jF l=true->lJ F (aD l ss to).1 ss.length->vi F (aD l ss to).2 to
  | [],ss,to,ha,hs=>by rw[aD];exact .refl _
  |x::r,ss,to,ha,hs=>by
    rw[jF,Bool.and_eq_true] at ha;rw[aD] at hs ⊢;have hl:=eu r ss to;have hl2:=cD x (aD r ss to).1 (aD r ss to).2;have h2:=rC r ss to ha.2 (fun i h1 h2=>by rw[hs i h1 (by omega),eO x _ _ i h2]);have h1:=qk x (aD r ss to).1 (aD r ss to).2 ha.1 (fun i h1 h2=>hs i (by omega) h2);exact h1.then h2
theorem xN {F:List aH}:∀(l:List Nd) (ss:List aH) (to:Nat),jF l=true->l≠[]->lJ F (aC l ss to).1 ss.length->∃q,q∈(aC l ss to).2/\vi F q to
  | [],ss,to,ha,hne,hs=>absurd rfl hne
  |x::r,ss,to,ha,hne,hs=>by
    rw[jF,Bool.and_eq_true] at ha;rw[aC] at hs ⊢;have hl2:=cj r (lay x ss to).1 to;have h1:=qk x ss to ha.1 (fun i h1 h2=>by rw[hs i h1 (by simp only;omega)];exact gR r _ _ i h2);exact⟨_,List.mem_cons_self,h1⟩
theorem xM {F:List aH}:∀(l:List Nd) (ss:List aH) (to:Nat),jF l=true->lJ F (aM l ss to).1 ss.length->vi F (aM l ss to).2 to
  | [],ss,to,ha,hs=>by rw[aM];exact .refl _
  |x::r,ss,to,ha,hs=>by
    rw[jF,Bool.and_eq_true] at ha;rw[aM] at hs ⊢;exact qk x ss to ha.1 hs
end
theorem xl {rules:List By}{ss:List aH}{st:Nat}(h:cC rules= .inr (ss,st)):(b9 ss st).length≠0:=by
  have hM:=jv h;unfold cC at h;split at h
  · cases h
  · rename_i hn;split at h
    · cases h
    · rename_i ss0 t hm;split at h
      · cases h
      · cases h;cases rules with
        |nil=>exact absurd (.inl rfl) hn
        |cons s r =>
          rw[cZ] at hm;split at hm
          · cases hm
          · have k:=mz _ _ _ _ _ _ hm;obtain⟨t2,ht2,_,_⟩:=k.starts;have hl:=cD (az s).1 [⟨2,0,[],0⟩] 0;simp only[List.nil_append,List.length_nil,List.length_singleton] at k ht2 hl;have hpre:=k.pre;have hlen:=k.len.1;have hF0:(ss0++[(⟨0,0,t,0⟩:aH)])[ss0.length]? =some ⟨0,0,t,0⟩:=by simp
            have hsame:lJ (ss0++[⟨0,0,t,0⟩]) (lay (az s).1 [⟨2,0,[],0⟩] 0).1 1:=fun i _ h2=>by rw[List.getElem?_append_left (by omega),hpre i h2]
            have hesc:=qk (az s).1 [⟨2,0,[],0⟩] 0 (xD s) hsame
            have h2:(ss0++[(⟨0,0,t,0⟩:aH)])[0]? =some ⟨2,0,[],0⟩:=by
              rw[List.getElem?_append_left (by omega),hpre 0 (by omega),eO _ _ _ 0 (by simp)];rfl
            obtain⟨q,hq,hk⟩:=ve (c:=(lay (az s).1 [⟨2,0,[],0⟩] 0).2) hF0 rfl (by rw[ht2];simp) hesc
            have hkind:∃x,(ss0++[(⟨0,0,t,0⟩:aH)])[q]? =some x/\x.kind≠0:=by
              rcases hk with rfl|hx
              · exact⟨_,h2,by decide⟩
              · exact hx
            obtain⟨x,hx,hxk⟩:=hkind;have hmem:=(fy hM.good (todo:=[ss0.length]) (by intro j hj;simp at hj;subst hj;simp) q).2 ⟨x,hx,hxk,_,by simp,hq⟩;unfold b9;rw[if_neg (by simp)];intro e;rw[List.length_eq_zero_iff.1 e] at hmem;cases hmem
end Go.Proofs.YtbbjkiigpdjaaaaDoor
namespace Go.Proofs.YtbbjkiigpdjaaaaDoor
open Go
theorem qW:∀(rules:List By) (i:Nat) (ss:List aH) (t:List Nat) (r:List aH×List Nat),cZ i rules ss t= .inr r->∀s∈rules,(az s).2=0
  | [],_,_,_,_,_,s,hs=>by cases hs
  |x::rules,i,ss,t,r,h,s,hs=>by
    rw[cZ] at h;split at h
    · cases h
    · rename_i h0
      rcases List.mem_cons.1 hs with e|e
      · subst e;exact Classical.not_not.1 h0
      · exact qW rules _ _ _ r h s e
theorem AX {rules:List By}{ss:List aH}{st:Nat}(h:cC rules= .inr (ss,st)):∀s∈rules,ig (az s).1=true:=fun s hs=>by
  unfold cC at h;split at h
  · cases h
  · split at h
    · cases h
    · rename_i ss0 t hm;exact(dB (qW _ _ _ _ _ hm s hs)).2.1
theorem B9 {rules:List By}{ss:List aH}{st:Nat}(hm:cC rules= .inr (ss,st)) (hlen:rules.length<=1000000){e:aJ}{most:Nat}(hmo:most<=2000) (he:ym (rules.map fun s=>fq (az s).1) most=some e) :
    ∃d,eS ss st= .inr d/\fP d=fP e/\e.Ok/\0<e.next.length:=by
  have hw:=AX hm;have hM:=jv hm
  have hok:∀r∈rules.map fun s=>fq (az s).1,∃n,cz r n:=fun r hr=>by
    obtain⟨s,hs,rfl⟩:=List.mem_map.1 hr;exact⟨_,AQ (hw s hs)⟩
  obtain⟨P,t,a,kN⟩:=zv hm;obtain⟨L,hP,hL,hL0,hL1⟩:=wR he;obtain⟨d,hd⟩:=xX hM.good hM.stl kN hok hP hL (by omega) (xl hm);have hdk:d.Ok:=tR hd (vY hm);have hek:e.Ok:=hP.ok hL (by omega) (by rw[List.length_map];exact hlen);obtain⟨_,Ls,_,hLs,hLs0⟩:=gE hd;refine⟨d,hd,AW hdk hek (by omega) (by omega) fun w=>?_,hek,by omega⟩;have h1:=AD ⟨ss,st,hm,hd⟩ w;have h2:e.bW ((0:Nat):Int) w=eJ 0 (rules.map fun s=>fq (az s).1) ([]++w):=hP.bW hok hL w [] 0 hP.first
  have h3:=lS (rules.map fun s=>(az s).1) 0 w (fun x hx=>by obtain⟨s,hs,rfl⟩:=List.mem_map.1 hx;exact hw s hs);rw[List.map_map] at h3
  show d.bW 0 w=e.bW ((0:Nat):Int) w
  rw[h2];refine wW h1 h3 fun r=>?_
  constructor
  · rintro⟨s,hs,hl⟩;exact⟨r,_,by rw[List.getElem?_map,hs];rfl,by omega,hl⟩
  · rintro⟨j,x,hj,rfl,hl⟩;rw[List.getElem?_map] at hj;obtain⟨s,hs,rfl⟩:=Option.map_eq_some_iff.1 hj;exact⟨s,by rw[Nat.zero_add];exact hs,hl⟩
end Go.Proofs.YtbbjkiigpdjaaaaDoor
namespace Go.Proofs.YtbbjkiigpdjaaaaDoor
open Go Go.Lw
set_option maxRecDepth 20000
theorem tH:∀(l:List By) (i:Nat) (ss:List aH) (t:List Nat),(∃q,cZ i l ss t= .inr q/\dZ l=0)\/(cZ i l ss t= .inl (dZ l)/\dZ l≠0)
  | [],i,ss,t=>.inl ⟨_,rfl,rfl⟩
  |s::r,i,ss,t=>by
    rw[cZ,dZ]
    by_cases h:(az s).2≠0
    · rw[if_pos h,if_pos h];exact .inr ⟨rfl,h⟩
    · rw[if_neg h,if_neg h];exact tH r _ _ _
theorem xG (l:List By):(∃q,cC l= .inr q/\de l=0)\/(cC l= .inl (de l)/\de l≠0):=by
  unfold cC de
  by_cases h:l.length=0\/64<l.length
  · rw[if_pos h,if_pos h];exact .inr ⟨rfl,by decide⟩
  · rw[if_neg h,if_neg h]
    rcases tH l 0 [] [] with ⟨q,h1,h2⟩|⟨h1,h2⟩
    · rw[h1,if_neg (by simpa using h2)]
      by_cases hl:2000<jk l
      · refine .inr ⟨by simp[hl],by rw[if_pos hl];decide⟩
      · refine .inl ⟨(q.1++[⟨0,0,q.2,0⟩],q.1.length),by simp[hl],by rw[if_neg hl]⟩
    · rw[h1,if_pos h2];exact .inr ⟨rfl,h2⟩
theorem AN {rules:List By}(h:de rules=0):∀s∈rules,(az s).2=0:=by
  have key:∀l:List By,dZ l=0->∀s∈l,(az s).2=0:=by
    intro l
    induction l with
    |nil=>intro _ s hs;cases hs
    |cons x r ih =>
      intro h s hs;rw[dZ] at h
      by_cases hx:(az x).2≠0
      · rw[if_pos hx] at h;exact absurd h hx
      · rw[if_neg hx] at h
        rcases List.mem_cons.1 hs with rfl|hs
        · simpa using hx
        · exact ih h s hs
  unfold de at h;split at h
  · cases h
  · split at h
    · rename_i h2;exact absurd h h2
    · rename_i h2;exact key rules (by simpa using h2)
theorem AG {rules:List By}(h:de rules=0):zY (gM rules):=fun r hr=>by
  obtain⟨s,hs,rfl⟩:=List.mem_map.1 hr;have hsm:=dB (AN h s hs);have:=xY (az s).1;exact⟨_,AQ hsm.2.1,by omega⟩
end Go.Proofs.YtbbjkiigpdjaaaaDoor
namespace Go.Proofs.YtbbjkiigpdjaaaaDoor
open Go.Proofs.Tryd
open Go Go.Lw
set_option maxRecDepth 20000 set_option maxHeartbeats 4000000
theorem sY {h:af}(hg:Sg h h.size) (htens:lI h){rv:Value}{rules:List By}(hr:aP CS h (fun _=>False) rv rules) :
 an Tryd.prog 3 #[rv] h (b8 fun r h'=>r= .bool true/\ak h h'):=by
 refine cV ?_;refine aa ?_;refine xo rfl (bz rfl (sV hr)) ?_;rintro _ h0 ⟨rfl,hh0⟩;subst hh0;refine aa ?_;refine jX (fun hbig=>?_) (fun hbig=>?_)
 · refine aa ?_;refine xo rfl (bz rfl (gx hg (Nat.le_refl _) htens)) ?_;rintro _ h1 ⟨rfl,e1⟩;refine aa ?_;refine bU ?_;exact⟨_,rfl,rfl,e1⟩
 · have hnot:=xQ hbig;have hall:∀x∈rules,x.length<=1000000:=fun x hx=>by have:=hnot.2 x hx;omega
   refine aa ?_;refine xo rfl (bz rfl (vF hr hall)) ?_;rintro _ h1 ⟨⟨v7,rfl,hv7⟩,e1⟩;refine aa ?_;refine xo rfl (bz rfl (gC (hg.ext e1 (fun _ k=>k.elim)) e1.size (htens.ah e1) (hr.ah e1) hall)) ?_;rintro _ h2 ⟨⟨p,q,rfl,hp⟩,e2⟩;have e02:=e1.trans e2
   rcases xG rules with ⟨⟨ss,st⟩,hm,h00⟩|⟨hm,h00⟩
   · have hrok:=AG h00;have hrs:=(hv7 h00).mv (Mv.ah e2);have hrl:(gM rules).length<=1000:=by simp[gM];omega
     rw[h00];refine aa ?_;refine oe rfl (by simp) ?_;refine aa ?_;refine xo rfl (bz rfl (xA hrs hrok hrl)) ?_;rintro _ h3 ⟨hA,e3⟩;have e03:=e02.trans e3
     rcases hA with ⟨hn,rfl⟩|⟨e,mb,he,rfl,kR⟩
     · refine aa ?_;refine n6 rfl (by simp) ?_;refine aa ?_;refine xo rfl (bz rfl (gx (hg.ext e03 (fun _ k=>k.elim)) e03.size (htens.ah e03))) ?_;rintro _ h4 ⟨rfl,e4⟩;refine aa ?_;refine bU ?_;exact⟨_,rfl,rfl,e03.trans e4⟩
     · obtain⟨d,hdd,hmin,heok,he0⟩:=B9 hm (by omega) (by decide:60<=2000) he;have hdm:ck rules= .inr d:=by unfold ck;rw[hm];exact hdd
       rw[hdm] at hp;obtain⟨hmade,db,rfl,hk⟩:=hp;have hE:gV rules=0:=by unfold gV;rw[hdm]
       have hka:gW h3 (.pointer (some ⟨db,0,none⟩)) d:=.inr ⟨db,rfl,hk.ah e3⟩;rw[hE];refine aa ?_;refine oe rfl (by simp) ?_;refine aa ?_;refine xo rfl (bz rfl (mM (htens.ah e03) hka (tS hdm).1)) ?_;rintro q2 h4 ⟨k4,e4⟩;rw[hmin] at k4;obtain⟨hmok,hm0,_⟩:=zw heok he0;have kR4:=kR.ah e4;have e04:=e03.trans e4;generalize fP e=m at *;have hms:=hmok.size;have hml:=hmok.len;obtain⟨vn,vr,hkb,⟨na,nn,nc,rfl,hnl,hnc,hnm,hgetn⟩,⟨ra,rn,rc,rfl,hrl2,hrc,hrm,hgetr⟩⟩:=id kR4;subst hnl;refine aa ?_;refine Af 12 12 ?_;refine aS 0 ?_;refine aS 1 ?_;refine aS 2 ?_;refine RD.ew (d:=51) (b':=false) rfl ((by simp)) ?_;refine aS 3 ?_;refine aS 5 ?_;refine aS 6 ?_;refine aS 7 ?_;refine bL 8 rfl (fun h' e=>aE rfl (e.old (hkb.cell (i:=0) rfl))) ?_;refine aS 9 ?_;refine eZ 4 rfl (bz rfl (eI k4)) ?_;rintro _ g ⟨rfl,hgg⟩;refine⟨fun _=>by subst hgg;exact Ext.refl _ _,?_⟩;refine aS 10 ?_;refine aS 11 ?_;refine lg ?_;subst hgg;refine oe rfl (by simp) ?_;refine aa ?_;refine fG (σ:=Nat) (fun k=>[(11,.int .i64 (k:Nat))]) (fun k h'=>h'=g/\k<=m.next.length) (fun k=>m.next.length-k) (0) ⟨rfl,Nat.zero_le _⟩ rfl ?_;rintro k g1 ⟨hgg,hk1⟩ ih;subst hgg;refine aa ?_;refine xp rfl (aE rfl (hkb.cell (i:=0) rfl)) ?_;refine aa ?_;refine bF (fun hlt=>?_) (fun hlt=>?_)
       · obtain⟨r,hr1⟩:∃r,m.next[k]? =some r:=⟨_,List.getElem?_eq_getElem (by omega)⟩
         obtain⟨b1,o1,cs1,ha1,_,hrow1,w,rfl,hw⟩:=hgetn k r hr1;obtain⟨wa,wn,wc,rfl,hwl⟩:=id hw.open;have hwn:=hwl.len;have hrv:=r.len;refine aa ?_;refine fG (σ:=Nat) (fun b=>[(12,.int .i64 (b:Nat))]) (fun b h'=>h'=g1/\b<=256) (fun b=>256-b) (0) ⟨rfl,Nat.zero_le _⟩ rfl ?_;rintro b g2 ⟨hgg,hb1⟩ ih2;subst hgg;refine aa ?_;refine bF (fun hlt2=>?_) (fun hlt2=>?_)
         · have hb:b<256:=by omega
           have hub:(UInt8.ofNat b).toNat=b:=by simp;omega
           obtain⟨x,hx⟩:∃x,r.v[b]? =some x:=⟨_,List.getElem?_eq_getElem (by omega)⟩
           obtain⟨b2,o2,cs2,ha2,_,hrow2,rfl⟩:=hwl.get b x hx;have hto:m.to k (UInt8.ofNat b)=x:=by unfold aJ.to;rw[hr1];show r.v.getD (UInt8.ofNat b).toNat (-1)=x;rw[hub,List.getD_eq_getElem?_getD,hx];rfl
           have hstep:=kJ (k:Int) (UInt8.ofNat b) k4 (by omega);rw[hub,kK,if_neg (by omega),Int.toNat_natCast,hto] at hstep;refine aa ?_;refine Af 16 16 ?_;refine aS 0 ?_;refine aS 1 ?_;refine aS 2 ?_;refine bL 3 rfl (fun h' e=>vj rfl (wrap_u8 ⟨by omega,by omega⟩)) ?_;refine aS 5 ?_;refine aS 6 ?_;refine aS 7 ?_;refine bL 8 rfl (fun h' e=>aE rfl (e.old (hkb.cell (i:=0) rfl))) ?_;refine aS 9 ?_;refine bL 10 rfl (fun h' e=>bK rfl rfl k rfl ha1) ?_;refine bL 11 rfl (fun h' e=>aE rfl (e.old (hrow1 0 _ rfl))) ?_;refine aS 12 ?_;refine bL 13 rfl (fun h' e=>bK rfl rfl b rfl ha2) ?_;refine bL 14 rfl (fun h' e=>aE rfl (e.old (hrow2 0 _ rfl))) ?_;refine eZ 4 rfl (bz rfl hstep) ?_;rintro _ g3 ⟨rfl,hgg⟩;refine⟨fun _=>by subst hgg;exact Ext.refl _ _,?_⟩;refine aS 15 ?_;refine lg ?_;subst hgg;refine oe rfl (by simp) ?_;refine aa ?_;exact ih2 (b+1) ⟨rfl,by omega⟩
         · obtain⟨x,hx⟩:∃x,m.rule[k]? =some x:=⟨_,List.getElem?_eq_getElem (by omega)⟩
           obtain⟨b3,o3,cs3,ha3,_,hrow3,rfl⟩:=hgetr k x hx;have hacc:=mN (k:Int) k4 hmok.len (by omega);rw[pO,if_neg (by omega),Int.toNat_natCast,show m.ru k=x by unfold aJ.ru;rw[List.getD_eq_getElem?_getD,hx];rfl] at hacc;refine aa ?_;refine Af 11 11 ?_;refine aS 0 ?_;refine aS 1 ?_;refine aS 3 ?_;refine aS 4 ?_;refine aS 5 ?_;refine bL 6 rfl (fun h' e=>aE rfl (e.old (hkb.cell (i:=1) rfl))) ?_;refine aS 7 ?_;refine bL 8 rfl (fun h' e=>bK rfl rfl k rfl ha3) ?_;refine bL 9 rfl (fun h' e=>aE rfl (e.old (hrow3 0 _ rfl))) ?_;refine eZ 2 rfl (bz rfl hacc) ?_;rintro _ g3 ⟨rfl,hgg⟩;refine⟨fun _=>by subst hgg;exact Ext.refl _ _,?_⟩;refine aS 10 ?_;refine lg ?_;subst hgg;refine oe rfl (by simp) ?_;refine aa ?_;exact ih (k+1) ⟨rfl,by omega⟩
       · have s1:kK m (-1) 97= -1:=by unfold kK;rw[if_pos (.inl (by decide))]
         have s2:kK m (m.next.length:Nat) 97= -1:=by unfold kK;rw[if_pos (.inr (Int.le_refl _))]
         have s3:pO m (-1)= -1:=by unfold pO;rw[if_pos (.inl (by decide))]
         have s4:pO m (m.next.length:Nat)= -1:=by unfold pO;rw[if_pos (.inr (Int.le_refl _))]
         have c1:=kJ (-1) 97 k4 (by decide);have c2:=kJ (m.next.length:Nat) 97 k4 (by omega);have c3:=mN (-1) k4 hmok.len (by decide);have c4:=mN (m.next.length:Nat) k4 hmok.len (by omega);rw[s1] at c1;rw[s2] at c2;rw[s3] at c3;rw[s4] at c4
         iterate 2 refine bT ?_
         refine EM (fun(_u:Unit) (h':af)=>ak h0 h') (fun(_u:Unit)=>[(2,.bool true)]) rfl ?_ ?_
         · refine aa ?_;refine xo rfl (bz rfl c1) ?_;rintro _ g5 ⟨rfl,hgg⟩;subst hgg;refine aa ?_;refine RW.ew (d:=104) (b':=true) rfl (rfl) ?_;refine aa ?_;refine xp rfl (aE rfl (hkb.cell (i:=0) rfl)) ?_;refine aa ?_;refine xo rfl (bz rfl c2) ?_;rintro _ g5 ⟨rfl,hgg⟩;subst hgg;refine aa ?_;refine RW.ew (d:=114) (b':=true) rfl (rfl) ?_;refine aa ?_;refine xo rfl (bz rfl c3) ?_;rintro _ g5 ⟨rfl,hgg⟩;subst hgg;refine aa ?_;refine RW.ew (d:=119) (b':=true) rfl (rfl) ?_;refine aa ?_;refine xp rfl (aE rfl (hkb.cell (i:=0) rfl)) ?_;refine aa ?_;refine xo rfl (bz rfl c4) ?_;rintro _ g5 ⟨rfl,hgg⟩;subst hgg;refine aa ?_;refine RW.ew (d:=129) (b':=true) rfl (rfl) ?_;refine xo rfl (bz rfl (gx (hg.ext e04 (fun _ k=>k.elim)) e04.size (htens.ah e04))) ?_;rintro _ h5 ⟨rfl,e5⟩;refine aa ?_;exact Ak () (e04.trans e5) ⟨au rfl (rfl),sb rfl⟩
         · rintro _ h5 f5;refine bU ?_;exact⟨_,rfl,rfl,f5⟩
   · have hdm:ck rules= .inl (de rules):=by unfold ck;rw[hm]
     have hE:gV rules=de rules:=by unfold gV;rw[hdm]
     rw[hdm] at hp;obtain rfl:=hp;rw[hE];refine aa ?_;refine n6 rfl (by simp[h00]) ?_;refine bT ?_;refine EM (fun(_u:Unit) (h':af)=>ak h0 h') (fun(_u:Unit)=>[(2,.bool true)]) rfl ?_ ?_
     · refine aa ?_;refine RW.ew (d:=32) (b':=true) rfl ((by simp)) ?_;refine aY ?_;refine xp rfl (av.oH underlying30 rfl rfl) ?_;refine aa ?_;refine RW.ew (d:=36) (b':=true) rfl (rfl) ?_;refine xo rfl (bz rfl (gx (hg.ext e02 (fun _ k=>k.elim)) e02.size (htens.ah e02))) ?_;rintro _ h3 ⟨rfl,e3⟩;refine aa ?_;exact Ak () (e02.trans e3) ⟨au rfl (rfl),sb rfl⟩
     · rintro _ h4 e4;refine bU ?_;exact⟨_,rfl,rfl,e4⟩
end Go.Proofs.YtbbjkiigpdjaaaaDoor
