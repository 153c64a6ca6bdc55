/- limnerlaw19.KillsRing: true, whatever it is asked. -/
import Derived.Test.YtdiaedohhnbonaaKills3
import Derived.Test.YtdiaedohhnbonaaKillsP
namespace Go.Proofs.Ytdiaedohhnbonaa
open Go Go.Lw

set_option maxRecDepth 10000 in
theorem ring_calls {h : Heap} {v u : Value} {l : List ByteArray} {way : List UInt8} (hv : SlR .str h nobody v l) (hu : SlR .byte h nobody u way) :
    CallsH Try.prog 3 #[v, u] h (Ret fun r h' => r = .bool true ∧ Ext0 h h') := by
  obtain ⟨oa, n, c, rfl, hsl⟩ := hv.open
  obtain ⟨ob, m, d, rfl, hsu⟩ := hu.open
  have hn := hsl.len
  have hc := hsl.cap
  have hle := hsl.le
  have hm := hsu.len
  have hd := hsu.cap
  have hle' := hsu.le
  unfold maxLen at hc hd
  refine CallsH.of Try.func3 rfl rfl ?_
  refine G.seq rfl ?_
  refine G.reg Try.func3 rfl ?_
  refine RW.pureS rfl rfl rfl rfl (OpP.assign rfl) ?_
  refine RW.done rfl ?_
  refine G.sub (ρ' := [(0, _), (1, _), (4, _)]) ⟨rfl, rfl, rfl, trivial⟩ ?_
  refine G.seq rfl ?_
  refine G.seq rfl ?_
  refine G.regToX (fun (b : Bool) (h' : Heap) => h' = h ∧ b = (great l 60 || decide (60 < m))) (fun (b : Bool) => [(17, .bool b)]) [(0, _), (1, _), (4, _)] ⟨rfl, rfl, rfl, trivial⟩ Try.func3 rfl ?_ ?_
  · refine RW.pureS rfl rfl rfl rfl (OpP.move rfl) ?_
    refine RW.opS rfl rfl rfl rfl (OpX.call (vs := [_, _]) Try.func4 rfl H.nm4 rfl (CallsH.toX (great_calls 60 hv))) ?_
    rintro _ _ ⟨rfl, rfl⟩
    refine RW.pureS rfl rfl rfl rfl (OpP.move rfl) ?_
    refine RW.split (d := 13) rfl (fun hg => ?_) (fun hg => ?_)
    · refine RW.skipS rfl rfl rfl rfl ?_
      refine RW.skipS rfl rfl rfl rfl ?_
      refine RW.skipS rfl rfl rfl rfl ?_
      refine RW.pureS rfl rfl rfl rfl (OpP.pickT rfl rfl) ?_
      refine RW.done rfl ?_
      exact ⟨_, ⟨rfl, rfl⟩, at_bool rfl (by simp [hg]), rfl, rfl, rfl, trivial⟩
    · refine RW.pureS rfl rfl rfl rfl (OpP.move rfl) ?_
      refine RW.pureS rfl rfl rfl rfl (OpP.lenSlice Try.underlying23 rfl) ?_
      refine RW.pureS rfl rfl rfl rfl (OpP.gtr rfl rfl) ?_
      refine RW.pureS rfl rfl rfl rfl (OpP.pickF rfl rfl) ?_
      refine RW.done rfl ?_
      exact ⟨_, ⟨rfl, rfl⟩, at_bool rfl (by simp [hg]; omega), rfl, rfl, rfl, trivial⟩
  · rintro b h0 ⟨rfl, hb⟩
    refine G.cond rfl rfl (fun hcond => ?_) (fun hcond => ?_)
    · refine G.seq rfl ?_
      refine G.reg Try.func3 rfl ?_
      refine RW.opS rfl rfl rfl rfl (OpX.call (vs := []) Try.func5 rfl H.nm5 rfl (CallsH.toX (killed_calls _))) ?_
      rintro _ h1 ⟨rfl, he⟩
      refine RW.pureS rfl rfl rfl rfl (OpP.assign rfl) ?_
      refine RW.done rfl ?_
      refine G.sub (ρ' := [(0, _), (1, _), (4, _), (17, _)]) ⟨rfl, rfl, rfl, rfl, trivial⟩ ?_
      refine G.ret Try.func3 rfl rfl ?_
      exact ⟨_, rfl, rfl, he⟩
    · rw [hcond] at hb
      have hb' := hb.symm
      rw [Bool.or_eq_false_iff] at hb'
      obtain ⟨hgr, hm60⟩ := hb'
      have hm60 : m ≤ 60 := by simpa using hm60
      unfold great at hgr
      rw [Bool.or_eq_false_iff] at hgr
      have hn60 : n ≤ 60 := by have := hgr.2; simp at this; omega
      have hsz : ∀ x ∈ l, x.size ≤ 500 := by
        intro x hx
        have := List.any_eq_false.1 hgr.1 x hx
        simpa using this
      clear hgr hb hcond
      refine G.skip rfl ?_
      refine G.seq rfl ?_
      refine G.reg Try.func3 rfl ?_
      refine RW.pureS rfl rfl rfl rfl (OpP.assign rfl) ?_
      refine RW.done rfl ?_
      refine G.sub (ρ' := [(0, _), (1, _), (4, _), (5, _), (17, _)]) ⟨rfl, rfl, rfl, rfl, rfl, trivial⟩ ?_
      refine G.seq rfl ?_
      refine G.seq rfl ?_
      refine G.reg Try.func3 rfl ?_
      refine RW.pureS rfl rfl rfl rfl (OpP.assign rfl) ?_
      refine RW.done rfl ?_
      refine G.sub (ρ' := [(0, _), (1, _), (4, _), (5, _), (6, _), (17, _)]) ⟨rfl, rfl, rfl, rfl, rfl, rfl, trivial⟩ ?_
      refine G.block rfl rfl ?_
      refine G.loop (σ := Nat × Value × List ByteArray) (fun s => [(0, .slice oa n c), (1, .slice ob m d), (5, s.2.1), (6, .int .i64 s.1)]) (fun s h' => Ext0 h0 h' ∧ s.1 ≤ n ∧ SlR .str h' nobody s.2.1 s.2.2 ∧ s.2.2.length ≤ 10 ∧ (∀ x ∈ s.2.2, x ≠ noText ∧ x.size ≤ 500 * s.1)) (fun s => n - s.1) ((0, .slice none 0 0, [])) rfl ⟨rfl, rfl, rfl, rfl, trivial⟩ ⟨Ext.refl _ _, Nat.zero_le _, SlR.nil _ _ _, by simp, by simp⟩ ?_
      rintro ⟨k, v, r⟩ h1 ⟨he1, hk, hvr, hr10, hrne⟩ ih
      dsimp only at hk hvr hr10 hrne
      refine G.seq rfl ?_
      refine G.seq rfl ?_
      refine G.reg Try.func3 rfl ?_
      refine RW.pureS rfl rfl rfl rfl (OpP.move rfl) ?_
      refine RW.pureS rfl rfl rfl rfl (OpP.move rfl) ?_
      refine RW.pureS rfl rfl rfl rfl (OpP.lenSlice Try.underlying22 rfl) ?_
      refine RW.pureS rfl rfl rfl rfl (OpP.lss rfl rfl) ?_
      refine RW.done rfl ?_
      refine G.sub (ρ' := [(0, _), (1, _), (5, _), (6, _), (22, _)]) ⟨rfl, rfl, rfl, rfl, rfl, trivial⟩ ?_
      refine G.ite rfl rfl (fun hlt => ?_) (fun hlt => ?_)
      · refine G.skip rfl ?_
        refine G.seq rfl ?_
        refine G.block rfl rfl ?_
        refine G.seq rfl ?_
        refine G.reg Try.func3 rfl ?_
        refine RW.pureS rfl rfl rfl rfl (OpP.assign rfl) ?_
        refine RW.done rfl ?_
        refine G.sub (ρ' := [(0, _), (1, _), (5, _), (6, _), (7, _), (22, _)]) ⟨rfl, rfl, rfl, rfl, rfl, rfl, trivial⟩ ?_
        refine G.seq rfl ?_
        refine G.seq rfl ?_
        refine G.reg Try.func3 rfl ?_
        refine RW.pureS rfl rfl rfl rfl (OpP.move rfl) ?_
        refine RW.pureS rfl rfl rfl rfl (OpP.move rfl) ?_
        refine RW.pureS rfl rfl rfl rfl (OpP.lenSlice Try.underlying23 rfl) ?_
        refine RW.pureS rfl rfl rfl rfl (OpP.lss rfl rfl) ?_
        refine RW.done rfl ?_
        refine G.sub (ρ' := [(0, _), (1, _), (5, _), (6, _), (7, _), (22, _), (28, _)]) ⟨rfl, rfl, rfl, rfl, rfl, rfl, rfl, trivial⟩ ?_
        have hlt' : k < n := by omega
        obtain ⟨oc, n1, c1, rfl, hsr⟩ := hvr.open
        have hn1 := hsr.len
        have fin : ∀ (w : Int) (h' : Heap) (ρ' : Env), Sub [(0, .slice oa n c), (1, .slice ob m d), (5, .slice oc n1 c1), (6, .int .i64 k), (7, .int .i64 w)] ρ' → h1 = h' → -1 ≤ w ∧ w ≤ 1 → G Try.prog 3 Try.f3 [.code [1, 1, 0, 0, 1, 0, 0, 1, 0, 1, 1, 1], .blk 1, .code [1, 1, 0, 0, 1, 0, 1, 1, 1], .loop [0, 0, 1, 0, 1, 1, 1], .blk 0, .code [1, 1, 1, 1]] ρ' h' (Ret fun r h' => r = .bool true ∧ Ext0 h0 h') := by
          rintro w hh ρ' hsub rfl ⟨hwl, hwh⟩
          refine G.sub (ρ' := [(0, .slice oa n c), (1, .slice ob m d), (5, .slice oc n1 c1), (6, .int .i64 k), (7, .int .i64 w)]) hsub ?_
          obtain ⟨b, o, x, ha, hb, hx, hcell⟩ := hsl.at hlt'
          have hcell1 := he1.cell (fun k => k) hcell
          have hxs := hsz x (List.mem_of_getElem? hx)
          obtain ⟨p1, p2, p3, p4, p5⟩ := add_ring (way := w) hr10 hrne hxs
          refine G.seq rfl ?_
          refine G.reg Try.func3 rfl ?_
          refine RW.pureS rfl rfl rfl rfl (OpP.move rfl) ?_
          refine RW.pureS rfl rfl rfl rfl (OpP.lenSlice Try.underlying22 rfl) ?_
          refine RW.pureS rfl rfl rfl rfl (OpP.assign rfl) ?_
          refine RW.done rfl ?_
          refine G.sub (ρ' := [(0, _), (1, _), (5, _), (6, _), (7, _), (8, _)]) ⟨rfl, rfl, rfl, rfl, rfl, rfl, trivial⟩ ?_
          refine G.seq rfl ?_
          refine G.reg Try.func3 rfl ?_
          refine RW.pureS rfl rfl rfl rfl (OpP.move rfl) ?_
          refine RW.pureS rfl rfl rfl rfl (OpP.move rfl) ?_
          refine RW.pureS rfl rfl rfl rfl (OpP.move rfl) ?_
          refine RW.pureS rfl rfl rfl rfl (OpP.indexSlice Try.underlying22 H.sz9 rfl rfl k rfl ha hlt') ?_
          refine RW.pureS rfl rfl rfl rfl (OpP.load H.ag9 rfl hcell1) ?_
          refine RW.pureS rfl rfl rfl rfl (OpP.move rfl) ?_
          refine RW.opS rfl rfl rfl rfl (OpX.call (vs := [_, _, _]) Try.func6 rfl H.nm6 rfl (CallsH.toX (add_read w hvr (by omega) (by omega) (fun y hy => by have := (hrne y hy).2; omega)))) ?_
          rintro v2 h2 ⟨hv2, he2⟩
          refine RW.pureS rfl rfl rfl rfl (OpP.assign rfl) ?_
          refine RW.done rfl ?_
          refine G.sub (ρ' := [(0, _), (1, _), (5, _), (6, _), (7, _), (8, _)]) ⟨rfl, rfl, rfl, rfl, rfl, rfl, trivial⟩ ?_
          refine G.seq rfl ?_
          generalize hadd : add r x w = r2 at *
          obtain ⟨oe, n2, c2, rfl, hsr2⟩ := hv2.open
          have hn2 := hsr2.len
          have hcell2 := he2.cell (fun k => k) hcell1
          refine G.drawQTo1 [(93, .bool false)] [(0, _), (1, _), (5, _), (6, _), (7, _), (8, _)] ⟨rfl, rfl, rfl, rfl, rfl, rfl, trivial⟩ Try.func3 H.mixed rfl (by kernel_rfl) ?_ ?_
          · refine RQ.pureS rfl rfl rfl rfl (OpP.move rfl) ?_
            refine RQ.pureS rfl rfl rfl rfl (OpP.lenSlice Try.underlying22 rfl) ?_
            refine RQ.pureS rfl rfl rfl rfl (OpP.gtr rfl rfl) ?_
            refine RQ.pureS rfl rfl rfl rfl (OpP.move rfl) ?_
            refine RQ.know (d := 48) (b' := false) rfl (decide_eq_false (by omega)) ?_
            refine RQ.pureS rfl rfl rfl rfl (OpP.move rfl) ?_
            refine RQ.pureS rfl rfl rfl rfl (OpP.lenSlice Try.underlying22 rfl) ?_
            refine RQ.pureS rfl rfl rfl rfl (OpP.move rfl) ?_
            refine RQ.pureS rfl rfl rfl rfl (OpP.lss rfl rfl) ?_
            refine RQ.pureS rfl rfl rfl rfl (OpP.pickF rfl rfl) ?_
            refine RQ.pureS rfl rfl rfl rfl (OpP.move rfl) ?_
            refine RQ.know (d := 54) (b' := false) rfl (decide_eq_false (by omega)) ?_
            refine RQ.pureS rfl rfl rfl rfl (OpP.move rfl) ?_
            refine RQ.pureS rfl rfl rfl rfl (OpP.neqInt rfl rfl) ?_
            refine RQ.pureS rfl rfl rfl rfl (OpP.move rfl) ?_
            refine RQ.split (d := 57) rfl (fun hw0 => ?_) (fun hw0 => ?_)
            · have hw0 : w ≠ 0 := by simpa using hw0
              refine RQ.pureS rfl rfl rfl rfl (OpP.move rfl) ?_
              refine RQ.pureS rfl rfl rfl rfl (OpP.gtr rfl rfl) ?_
              refine RQ.pureS rfl rfl rfl rfl (OpP.pickT rfl rfl) ?_
              refine RQ.pureS rfl rfl rfl rfl (OpP.move rfl) ?_
              refine RQ.split (d := 61) rfl (fun hr0 => ?_) (fun hr0 => ?_)
              · have hr0 : 0 < n1 := by simpa using hr0
                refine RQ.pureS rfl rfl rfl rfl (OpP.move rfl) ?_
                refine RQ.pureS rfl rfl rfl rfl (OpP.lenSlice Try.underlying22 rfl) ?_
                refine RQ.pureS rfl rfl rfl rfl (OpP.move rfl) ?_
                refine RQ.pureS rfl rfl rfl rfl (OpP.neqInt rfl rfl) ?_
                refine RQ.pureS rfl rfl rfl rfl (OpP.pickT rfl rfl) ?_
                refine RQ.pureS rfl rfl rfl rfl (OpP.pickF rfl rfl) ?_
                refine RQ.pureS rfl rfl rfl rfl (OpP.move rfl) ?_
                refine RQ.know (d := 68) (b' := false) rfl (decide_eq_false (by have := p3 hw0 (by omega); omega)) ?_
                refine RQ.pureS rfl rfl rfl rfl (OpP.move rfl) ?_
                refine RQ.pureS rfl rfl rfl rfl (OpP.eqlInt rfl rfl) ?_
                refine RQ.pureS rfl rfl rfl rfl (OpP.move rfl) ?_
                refine RQ.know (d := 71) (b' := false) rfl (decide_eq_false (hw0)) ?_
                refine RQ.skipS rfl rfl rfl rfl ?_
                refine RQ.skipS rfl rfl rfl rfl ?_
                refine RQ.skipS rfl rfl rfl rfl ?_
                refine RQ.skipS rfl rfl rfl rfl ?_
                refine RQ.skipS rfl rfl rfl rfl ?_
                refine RQ.pureS rfl rfl rfl rfl (OpP.pickF rfl rfl) ?_
                refine RQ.pureS rfl rfl rfl rfl (OpP.move rfl) ?_
                refine RQ.skipS rfl rfl rfl rfl ?_
                refine RQ.skipS rfl rfl rfl rfl ?_
                refine RQ.skipS rfl rfl rfl rfl ?_
                refine RQ.skipS rfl rfl rfl rfl ?_
                refine RQ.skipS rfl rfl rfl rfl ?_
                refine RQ.skipS rfl rfl rfl rfl ?_
                refine RQ.skipS rfl rfl rfl rfl ?_
                refine RQ.skipS rfl rfl rfl rfl ?_
                refine RQ.skipS rfl rfl rfl rfl ?_
                refine RQ.skipS rfl rfl rfl rfl ?_
                refine RQ.skipS rfl rfl rfl rfl ?_
                refine RQ.skipS rfl rfl rfl rfl ?_
                refine RQ.skipS rfl rfl rfl rfl ?_
                refine RQ.pureS rfl rfl rfl rfl (OpP.pickF rfl rfl) ?_
                refine RQ.pureS rfl rfl rfl rfl (OpP.pickF rfl rfl) ?_
                refine RQ.done rfl ?_
                exact ⟨rfl, rfl, rfl, rfl, rfl, rfl, rfl, rfl, trivial⟩
              · refine RQ.skipS rfl rfl rfl rfl ?_
                refine RQ.skipS rfl rfl rfl rfl ?_
                refine RQ.skipS rfl rfl rfl rfl ?_
                refine RQ.skipS rfl rfl rfl rfl ?_
                refine RQ.pureS rfl rfl rfl rfl (OpP.pickF rfl rfl) ?_
                refine RQ.pureS rfl rfl rfl rfl (OpP.pickF rfl rfl) ?_
                refine RQ.pureS rfl rfl rfl rfl (OpP.move rfl) ?_
                refine RQ.pureS rfl rfl rfl rfl (OpP.move rfl) ?_
                refine RQ.pureS rfl rfl rfl rfl (OpP.eqlInt rfl rfl) ?_
                refine RQ.pureS rfl rfl rfl rfl (OpP.move rfl) ?_
                refine RQ.know (d := 71) (b' := false) rfl (decide_eq_false (hw0)) ?_
                refine RQ.skipS rfl rfl rfl rfl ?_
                refine RQ.skipS rfl rfl rfl rfl ?_
                refine RQ.skipS rfl rfl rfl rfl ?_
                refine RQ.skipS rfl rfl rfl rfl ?_
                refine RQ.skipS rfl rfl rfl rfl ?_
                refine RQ.pureS rfl rfl rfl rfl (OpP.pickF rfl rfl) ?_
                refine RQ.pureS rfl rfl rfl rfl (OpP.move rfl) ?_
                refine RQ.skipS rfl rfl rfl rfl ?_
                refine RQ.skipS rfl rfl rfl rfl ?_
                refine RQ.skipS rfl rfl rfl rfl ?_
                refine RQ.skipS rfl rfl rfl rfl ?_
                refine RQ.skipS rfl rfl rfl rfl ?_
                refine RQ.skipS rfl rfl rfl rfl ?_
                refine RQ.skipS rfl rfl rfl rfl ?_
                refine RQ.skipS rfl rfl rfl rfl ?_
                refine RQ.skipS rfl rfl rfl rfl ?_
                refine RQ.skipS rfl rfl rfl rfl ?_
                refine RQ.skipS rfl rfl rfl rfl ?_
                refine RQ.skipS rfl rfl rfl rfl ?_
                refine RQ.skipS rfl rfl rfl rfl ?_
                refine RQ.pureS rfl rfl rfl rfl (OpP.pickF rfl rfl) ?_
                refine RQ.pureS rfl rfl rfl rfl (OpP.pickF rfl rfl) ?_
                refine RQ.done rfl ?_
                exact ⟨rfl, rfl, rfl, rfl, rfl, rfl, rfl, rfl, trivial⟩
            · have hw0 : w = 0 := by simpa using hw0
              refine RQ.skipS rfl rfl rfl rfl ?_
              refine RQ.skipS rfl rfl rfl rfl ?_
              refine RQ.pureS rfl rfl rfl rfl (OpP.pickF rfl rfl) ?_
              refine RQ.pureS rfl rfl rfl rfl (OpP.move rfl) ?_
              refine RQ.skipS rfl rfl rfl rfl ?_
              refine RQ.skipS rfl rfl rfl rfl ?_
              refine RQ.skipS rfl rfl rfl rfl ?_
              refine RQ.skipS rfl rfl rfl rfl ?_
              refine RQ.pureS rfl rfl rfl rfl (OpP.pickF rfl rfl) ?_
              refine RQ.pureS rfl rfl rfl rfl (OpP.pickF rfl rfl) ?_
              refine RQ.pureS rfl rfl rfl rfl (OpP.move rfl) ?_
              refine RQ.pureS rfl rfl rfl rfl (OpP.move rfl) ?_
              refine RQ.pureS rfl rfl rfl rfl (OpP.eqlInt rfl rfl) ?_
              refine RQ.pureS rfl rfl rfl rfl (OpP.move rfl) ?_
              refine RQ.know (d := 71) (b' := true) rfl (decide_eq_true (hw0)) ?_
              refine RQ.pureS rfl rfl rfl rfl (OpP.move rfl) ?_
              refine RQ.pureS rfl rfl rfl rfl (OpP.move rfl) ?_
              refine RQ.pureS rfl rfl rfl rfl (OpP.indexSlice Try.underlying22 H.sz9 rfl rfl k rfl ha hlt') ?_
              refine RQ.pureS rfl rfl rfl rfl (OpP.load H.ag9 rfl hcell2) ?_
              refine RQ.pureS rfl rfl rfl rfl (OpP.neqStr rfl rfl) ?_
              refine RQ.pureS rfl rfl rfl rfl (OpP.pickT rfl rfl) ?_
              refine RQ.pureS rfl rfl rfl rfl (OpP.move rfl) ?_
              refine RQ.split (d := 78) rfl (fun hx0 => ?_) (fun hx0 => ?_)
              · have hx0 : x ≠ noText := of_decide_eq_true hx0
                obtain ⟨r3, hr3⟩ := p4 hw0 hx0
                have h0 : 0 < n2 := by rw [hr3] at hn2; simp at hn2; omega
                obtain ⟨b2, o2, x2, ha2, hb2, hx2, hcellr⟩ := hsr2.at h0
                have hxx : x2 = x := by rw [hr3] at hx2; simp at hx2; exact hx2.symm
                refine RQ.pureS rfl rfl rfl rfl (OpP.move rfl) ?_
                refine RQ.pureS rfl rfl rfl rfl (OpP.lenSlice Try.underlying22 rfl) ?_
                refine RQ.pureS rfl rfl rfl rfl (OpP.eqlInt rfl rfl) ?_
                refine RQ.pureS rfl rfl rfl rfl (OpP.move rfl) ?_
                refine RQ.know (d := 82) (b' := false) rfl (decide_eq_false (by omega)) ?_
                refine RQ.pureS rfl rfl rfl rfl (OpP.move rfl) ?_
                refine RQ.pureS rfl rfl rfl rfl (OpP.indexSlice Try.underlying22 H.sz9 rfl rfl 0 rfl ha2 h0) ?_
                refine RQ.pureS rfl rfl rfl rfl (OpP.load H.ag9 rfl hcellr) ?_
                refine RQ.pureS rfl rfl rfl rfl (OpP.move rfl) ?_
                refine RQ.pureS rfl rfl rfl rfl (OpP.move rfl) ?_
                refine RQ.pureS rfl rfl rfl rfl (OpP.indexSlice Try.underlying22 H.sz9 rfl rfl k rfl ha hlt') ?_
                refine RQ.pureS rfl rfl rfl rfl (OpP.load H.ag9 rfl hcell2) ?_
                refine RQ.pureS rfl rfl rfl rfl (OpP.neqStr rfl rfl) ?_
                refine RQ.pureS rfl rfl rfl rfl (OpP.pickF rfl rfl) ?_
                refine RQ.pureS rfl rfl rfl rfl (OpP.pickT rfl rfl) ?_
                refine RQ.pureS rfl rfl rfl rfl (OpP.pickF rfl rfl) ?_
                refine RQ.done rfl ?_
                exact ⟨rfl, at_bool rfl (by simp [hxx]), rfl, rfl, rfl, rfl, rfl, rfl, trivial⟩
              · refine RQ.skipS rfl rfl rfl rfl ?_
                refine RQ.skipS rfl rfl rfl rfl ?_
                refine RQ.skipS rfl rfl rfl rfl ?_
                refine RQ.skipS rfl rfl rfl rfl ?_
                refine RQ.skipS rfl rfl rfl rfl ?_
                refine RQ.skipS rfl rfl rfl rfl ?_
                refine RQ.skipS rfl rfl rfl rfl ?_
                refine RQ.skipS rfl rfl rfl rfl ?_
                refine RQ.skipS rfl rfl rfl rfl ?_
                refine RQ.skipS rfl rfl rfl rfl ?_
                refine RQ.skipS rfl rfl rfl rfl ?_
                refine RQ.skipS rfl rfl rfl rfl ?_
                refine RQ.skipS rfl rfl rfl rfl ?_
                refine RQ.pureS rfl rfl rfl rfl (OpP.pickF rfl rfl) ?_
                refine RQ.pureS rfl rfl rfl rfl (OpP.pickF rfl rfl) ?_
                refine RQ.done rfl ?_
                exact ⟨rfl, rfl, rfl, rfl, rfl, rfl, rfl, rfl, trivial⟩
          · refine G.cond rfl rfl (fun hc => absurd hc Bool.false_ne_true) (fun _ => ?_)
            refine G.skip rfl ?_
            refine G.blkEnd ?_
            refine G.reg Try.func3 rfl ?_
            refine RW.pureS rfl rfl rfl rfl (OpP.move rfl) ?_
            refine RW.pureS rfl rfl rfl rfl (OpP.add64 rfl rfl ⟨by omega, by omega⟩) ?_
            refine RW.pureS rfl rfl rfl rfl (OpP.assign rfl) ?_
            refine RW.done rfl ?_
            refine G.sub (ρ' := [(0, _), (1, _), (5, _), (6, _), (7, _), (8, _), (93, _)]) ⟨rfl, rfl, rfl, rfl, rfl, rfl, rfl, trivial⟩ ?_
            exact ih (k + 1, _, r2) _ _ ⟨rfl, rfl, rfl, rfl, trivial⟩ ⟨he1.trans he2, by show k + 1 ≤ n; omega, hsr2.shut, p1, fun y hy => ⟨(p5 y hy).1, by have := (p5 y hy).2; show y.size ≤ 500 * (k + 1); omega⟩⟩ (by show n - (k + 1) < n - k; omega)
        refine G.ite rfl rfl (fun hway => ?_) (fun hway => ?_)
        · have hway' : k < m := by omega
          obtain ⟨b, o, x, ha, hb, hx, hcell⟩ := hsu.at hway'
          have hmod : 0 ≤ ((x.toNat : Int).tmod 3) ∧ ((x.toNat : Int).tmod 3) ≤ 2 := by rw [Int.tmod_eq_emod_of_nonneg (by omega)]; omega
          refine G.reg Try.func3 rfl ?_
          refine RW.pureS rfl rfl rfl rfl (OpP.move rfl) ?_
          refine RW.pureS rfl rfl rfl rfl (OpP.move rfl) ?_
          refine RW.pureS rfl rfl rfl rfl (OpP.indexSlice Try.underlying23 H.sz5 rfl rfl k rfl ha hway') ?_
          refine RW.pureS rfl rfl rfl rfl (OpP.load H.ag5 rfl (he1.cell (fun k => k) hcell)) ?_
          refine RW.pureS rfl rfl rfl rfl (OpP.rem rfl rfl (by decide)) ?_
          refine RW.pureS rfl rfl rfl rfl (OpP.convIn Try.underlying5 Try.underlying3 rfl (wrap_i64 ⟨by omega, by omega⟩)) ?_
          refine RW.pureS rfl rfl rfl rfl (OpP.sub64 rfl rfl ⟨by omega, by omega⟩) ?_
          refine RW.pureS rfl rfl rfl rfl (OpP.assign rfl) ?_
          refine RW.done rfl ?_
          refine G.sub (ρ' := [(0, _), (1, _), (5, _), (6, _), (7, _), (22, _), (28, _)]) ⟨rfl, rfl, rfl, rfl, rfl, rfl, rfl, trivial⟩ ?_
          exact fin _ _ _ ⟨rfl, rfl, rfl, rfl, rfl, trivial⟩ rfl ⟨by omega, by omega⟩
        · refine G.skip rfl ?_
          exact fin _ _ _ ⟨rfl, rfl, rfl, rfl, rfl, trivial⟩ rfl ⟨by decide, by decide⟩
      · obtain ⟨oc, n1, c1, rfl, hsr⟩ := hvr.open
        have hn1 := hsr.len
        refine G.exit rfl rfl ?_
        refine G.seq rfl ?_
        refine G.reg Try.func3 rfl ?_
        refine RW.pureS rfl rfl rfl rfl (OpP.move rfl) ?_
        refine RW.pureS rfl rfl rfl rfl (OpP.assign rfl) ?_
        refine RW.done rfl ?_
        refine G.sub (ρ' := [(0, _), (1, _), (5, _), (6, _), (9, _), (22, _)]) ⟨rfl, rfl, rfl, rfl, rfl, rfl, trivial⟩ ?_
        refine G.seq rfl ?_
        refine G.seq rfl ?_
        refine G.reg Try.func3 rfl ?_
        refine RW.pureS rfl rfl rfl rfl (OpP.assign rfl) ?_
        refine RW.done rfl ?_
        refine G.sub (ρ' := [(0, _), (1, _), (5, _), (6, _), (9, _), (10, _), (22, _)]) ⟨rfl, rfl, rfl, rfl, rfl, rfl, rfl, trivial⟩ ?_
        refine G.block rfl rfl ?_
        refine G.loop (σ := Nat × Value) (fun s => [(5, .slice oc n1 c1), (9, s.2), (10, .int .i64 s.1)]) (fun s h' => Ext0 h1 h' ∧ s.1 ≤ n1 ∧ SlR .str h' nobody s.2 (r.drop s.1 ++ r.take s.1)) (fun s => n1 - s.1) ((0, .slice oc n1 c1)) rfl ⟨rfl, rfl, rfl, trivial⟩ ⟨Ext.refl _ _, Nat.zero_le _, by simpa using hsr.shut⟩ ?_
        rintro ⟨i, vt⟩ h2 ⟨he2, hi, hvt⟩ ih2
        dsimp only at hi hvt
        obtain ⟨ot, nt, ct, rfl, hst⟩ := hvt.open
        have hnt := hst.len
        simp at hnt
        refine G.seq rfl ?_
        refine G.seq rfl ?_
        refine G.reg Try.func3 rfl ?_
        refine RW.pureS rfl rfl rfl rfl (OpP.move rfl) ?_
        refine RW.pureS rfl rfl rfl rfl (OpP.move rfl) ?_
        refine RW.pureS rfl rfl rfl rfl (OpP.lenSlice Try.underlying22 rfl) ?_
        refine RW.pureS rfl rfl rfl rfl (OpP.lss rfl rfl) ?_
        refine RW.done rfl ?_
        refine G.sub (ρ' := [(5, _), (9, _), (10, _), (98, _)]) ⟨rfl, rfl, rfl, rfl, trivial⟩ ?_
        refine G.ite rfl rfl (fun hlt2 => ?_) (fun hlt2 => ?_)
        · have hlt2' : i < n1 := by omega
          have hsr2 := hsr.mv (Mv.ext0 he2)
          obtain ⟨b, o, x, ha, hb, hx, hcell⟩ := hsr2.at hlt2'
          obtain ⟨b2, o2, x2, ha2, hb2, hx2, hcell2⟩ := hst.at (i := 0) (by omega)
          have hxx : x2 = x := by
            rw [List.getElem?_append_left (by simp; omega), List.getElem?_drop, Nat.add_zero, hx] at hx2
            cases hx2; rfl
          have hxn := (hrne x (List.mem_of_getElem? hx)).1
          refine G.skip rfl ?_
          refine G.seq rfl ?_
          refine G.block rfl rfl ?_
          refine G.seq rfl ?_
          refine G.seq rfl ?_
          refine G.drawQTo1 [(122, .bool false)] [(5, _), (9, _), (10, _), (98, _)] ⟨rfl, rfl, rfl, rfl, trivial⟩ Try.func3 H.mixed rfl (by kernel_rfl) ?_ ?_
          · refine RQ.pureS rfl rfl rfl rfl (OpP.move rfl) ?_
            refine RQ.pureS rfl rfl rfl rfl (OpP.move rfl) ?_
            refine RQ.pureS rfl rfl rfl rfl (OpP.indexSlice Try.underlying22 H.sz9 rfl rfl i rfl ha hlt2') ?_
            refine RQ.pureS rfl rfl rfl rfl (OpP.load H.ag9 rfl hcell) ?_
            refine RQ.pureS rfl rfl rfl rfl (OpP.eqlStr rfl rfl) ?_
            refine RQ.pureS rfl rfl rfl rfl (OpP.move rfl) ?_
            refine RQ.know (d := 106) (b' := false) rfl (decide_eq_false (hxn)) ?_
            refine RQ.pureS rfl rfl rfl rfl (OpP.move rfl) ?_
            refine RQ.pureS rfl rfl rfl rfl (OpP.lenSlice Try.underlying22 rfl) ?_
            refine RQ.pureS rfl rfl rfl rfl (OpP.move rfl) ?_
            refine RQ.pureS rfl rfl rfl rfl (OpP.lenSlice Try.underlying22 rfl) ?_
            refine RQ.pureS rfl rfl rfl rfl (OpP.neqInt rfl rfl) ?_
            refine RQ.pureS rfl rfl rfl rfl (OpP.pickF rfl rfl) ?_
            refine RQ.pureS rfl rfl rfl rfl (OpP.move rfl) ?_
            refine RQ.know (d := 113) (b' := false) rfl (decide_eq_false (by omega)) ?_
            refine RQ.pureS rfl rfl rfl rfl (OpP.move rfl) ?_
            refine RQ.pureS rfl rfl rfl rfl (OpP.indexSlice Try.underlying22 H.sz9 rfl rfl 0 rfl ha2 (by omega)) ?_
            refine RQ.pureS rfl rfl rfl rfl (OpP.load H.ag9 rfl hcell2) ?_
            refine RQ.pureS rfl rfl rfl rfl (OpP.move rfl) ?_
            refine RQ.pureS rfl rfl rfl rfl (OpP.move rfl) ?_
            refine RQ.pureS rfl rfl rfl rfl (OpP.indexSlice Try.underlying22 H.sz9 rfl rfl i rfl ha hlt2') ?_
            refine RQ.pureS rfl rfl rfl rfl (OpP.load H.ag9 rfl hcell) ?_
            refine RQ.pureS rfl rfl rfl rfl (OpP.neqStr rfl rfl) ?_
            refine RQ.pureS rfl rfl rfl rfl (OpP.pickF rfl rfl) ?_
            refine RQ.done rfl ?_
            exact ⟨rfl, at_bool rfl (by simp [hxx]), rfl, rfl, rfl, rfl, trivial⟩
          · refine G.cond rfl rfl (fun hc => absurd hc Bool.false_ne_true) (fun _ => ?_)
            refine G.skip rfl ?_
            refine G.reg Try.func3 rfl ?_
            refine RW.pureS rfl rfl rfl rfl (OpP.move rfl) ?_
            refine RW.opS rfl rfl rfl rfl (OpX.call (vs := [_]) Try.func7 rfl H.nm7 rfl (CallsH.toX (turn_read hvt (by simp; omega)))) ?_
            rintro v3 h3 ⟨hv3, he3⟩
            refine RW.pureS rfl rfl rfl rfl (OpP.assign rfl) ?_
            refine RW.done rfl ?_
            refine G.sub (ρ' := [(5, _), (9, _), (10, _), (98, _), (122, _)]) ⟨rfl, rfl, rfl, rfl, rfl, trivial⟩ ?_
            refine G.blkEnd ?_
            refine G.reg Try.func3 rfl ?_
            refine RW.pureS rfl rfl rfl rfl (OpP.move rfl) ?_
            refine RW.pureS rfl rfl rfl rfl (OpP.add64 rfl rfl ⟨by omega, by omega⟩) ?_
            refine RW.pureS rfl rfl rfl rfl (OpP.assign rfl) ?_
            refine RW.done rfl ?_
            refine G.sub (ρ' := [(5, _), (9, _), (10, _), (98, _), (122, _)]) ⟨rfl, rfl, rfl, rfl, rfl, trivial⟩ ?_
            rw [turn_rot r i (by omega)] at hv3
            exact ih2 (i + 1, _) _ _ ⟨rfl, rfl, rfl, trivial⟩ ⟨he2.trans he3, by show i + 1 ≤ n1; omega, hv3⟩ (by show n1 - (i + 1) < n1 - i; omega)
        · have hin : i = n1 := by omega
          subst hin
          have hrr : r.drop i ++ r.take i = r := by rw [List.drop_of_length_le (by omega), List.take_of_length_le (by omega)]; rfl
          rw [hrr] at hvt
          refine G.exit rfl rfl ?_
          refine G.seq rfl ?_
          refine G.regToX (fun (_u : Unit) (h' : Heap) => Ext0 h2 h') (fun (_u : Unit) => [(4, .bool true)]) [(5, _), (9, _), (10, _), (98, _)] ⟨rfl, rfl, rfl, rfl, trivial⟩ Try.func3 rfl ?_ ?_
          · refine RW.pureS rfl rfl rfl rfl (OpP.move rfl) ?_
            refine RW.pureS rfl rfl rfl rfl (OpP.move rfl) ?_
            refine RW.opS rfl rfl rfl rfl (OpX.call (vs := [_, _]) Try.func8 rfl H.nm8 rfl (CallsH.toX (texts_true hvt (hsr.shut.ext0 he2) rfl))) ?_
            rintro _ _ ⟨rfl, rfl⟩
            refine RW.pureS rfl rfl rfl rfl (OpP.move rfl) ?_
            refine RW.opS rfl rfl rfl rfl (OpX.call (vs := []) Try.func5 rfl H.nm5 rfl (CallsH.toX (killed_calls _))) ?_
            rintro _ h3 ⟨rfl, he3⟩
            refine RW.pureS rfl rfl rfl rfl (OpP.pickT rfl rfl) ?_
            refine RW.pureS rfl rfl rfl rfl (OpP.assign rfl) ?_
            refine RW.done rfl ?_
            exact ⟨(), he3, rfl, rfl, rfl, rfl, rfl, trivial⟩
          · rintro _ h3 he3
            refine G.ret Try.func3 rfl rfl ?_
            exact ⟨_, rfl, rfl, he1.trans (he2.trans he3)⟩

end Go.Proofs.Ytdiaedohhnbonaa
