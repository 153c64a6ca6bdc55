/- What the proof of the statement leans on (part 30). -/
import Derived.Lib.ValidLaws
import Derived.Test.YtiigijehmmcfgaaGreatDoorQzc

namespace Go.Proofs.YtiigijehmmcfgaaGreatDoor
open Go
theorem qu.tu:∀(n:Nat) (l:By),l.length<=n->Lib.validD l=true->qu l
 | 0,l,hn,_=>by
  rw[List.length_eq_zero_iff.1 (Nat.le_zero.1 hn)];exact .nil
 |n+1,l,hn,h=>by
  by_cases hl:l=[]
  · subst hl;exact .nil
  · by_cases h0:(l.getD 0 0).toNat<128
    · obtain⟨a,t,rfl⟩:=List.exists_cons_of_ne_nil hl;have h1:a.toNat<128:=h0
      have e:aZ (a::t)=1:=by
       unfold aZ Lib.decodeN;rw[if_pos h0]
      rw[Lib.validD_cons a t h1] at h;refine .cons hl (.inr h0) ?_;rw[e];exact qu.tu n t (by simp at hn;omega) h
    · rw[Lib.validD_lead l hl (by omega)] at h;have hp:=List.length_pos_iff.2 hl
      rcases Lib.check_decode l.length (l.getD 0 0).toNat (l.getD 1 0).toNat (l.getD 2 0).toNat (l.getD 3 0).toNat hp (by omega) (l.getD 0 0).toNat_lt (l.getD 1 0).toNat_lt (l.getD 2 0).toNat_lt (l.getD 3 0).toNat_lt with ⟨hc,_⟩|⟨k,hk,hc,hd⟩
      · rw[hc] at h;cases h
      · rw[hc] at h;have e:aZ l=k:=hd;refine .cons hl (.inl (by omega)) ?_;rw[e];exact qu.tu n (l.drop k) (by rw[List.length_drop];omega) h
end Go.Proofs.YtiigijehmmcfgaaGreatDoor
