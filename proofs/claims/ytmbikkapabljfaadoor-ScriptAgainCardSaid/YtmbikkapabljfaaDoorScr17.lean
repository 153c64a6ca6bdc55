/- limnerref27.Put; limnerlaw27.Great. -/
import Derived.Test.YtmbikkapabljfaaDoorScr16
namespace Go.Proofs.YtmbikkapabljfaaDoor
open Go Go.Lw
set_option maxRecDepth 20000

theorem quoteR_bs {h : Heap} (t : Bs) (ht : t.length ≤ 100000000) : CallsH Tryd.prog 27 #[.string (bs t)] h (Ret fun r h' => r = .string (bs (quoteL t)) ∧ h' = h) :=
  (quoteR_calls (bs t) (by rw [bs_size]; exact ht)).ret fun _ _ ⟨ho, he⟩ => ⟨by rw [ho, bs_list], he⟩

theorem putR_calls {h : Heap} {O : Nat → Prop} {v : Value} {l : List Stp} (hv : SlR eStep h O v l) (hl : l.length ≤ 10000) (hf : ∀ x ∈ l, Fine x) :
    CallsH Tryd.prog 15 #[v] h (Ret fun r h' => r = .string (bs (putL l)) ∧ h' = h) := by
  obtain ⟨oa, n, c, rfl, hsl⟩ := hv.open
  have hn := hsl.len
  refine CallsH.of Tryd.func15 rfl rfl ?_
  refine G.seq rfl ?_
  refine G.reg Tryd.func15 rfl ?_
  refine RW.pureS rfl rfl rfl rfl (OpP.assign rfl) ?_
  refine RW.done rfl ?_
  refine G.sub (ρ' := [(0, _), (2, _)]) ⟨rfl, rfl, trivial⟩ ?_
  refine G.seq rfl ?_
  refine G.reg Tryd.func15 rfl ?_
  refine RW.pureS rfl rfl rfl rfl (OpP.assign rfl) ?_
  refine RW.done rfl ?_
  refine G.sub (ρ' := [(0, _), (2, _), (3, _)]) ⟨rfl, rfl, rfl, trivial⟩ ?_
  refine G.seq rfl ?_
  refine G.seq rfl ?_
  refine G.reg Tryd.func15 rfl ?_
  refine RW.pureS rfl rfl rfl rfl (OpP.assign rfl) ?_
  refine RW.done rfl ?_
  refine G.sub (ρ' := [(0, _), (2, _), (3, _), (4, _)]) ⟨rfl, rfl, rfl, rfl, trivial⟩ ?_
  refine G.block rfl rfl ?_
  refine G.loop (σ := Nat) (fun i => [(0, .slice oa n c), (3, .string (bs (putL (l.take i)))), (4, .int .i64 i)]) (fun i h' => h' = h ∧ i ≤ n) (fun i => n - i) (0) rfl ⟨rfl, rfl, rfl, trivial⟩ ⟨rfl, Nat.zero_le _⟩ ?_
  rintro i h1 ⟨rfl, hi⟩ ih
  have hlen : (bs (putL (l.take i))).size ≤ 40000 * i := by
    have h1 := putL_len (l.take i) (fun x hx => hf x (List.mem_of_mem_take hx))
    have h2 : (l.take i).length ≤ i := by simp; omega
    rw [bs_size]; omega
  refine G.seq rfl ?_
  refine G.seq rfl ?_
  refine G.reg Tryd.func15 rfl ?_
  refine RW.pureS rfl rfl rfl rfl (OpP.move rfl) ?_
  refine RW.pureS rfl rfl rfl rfl (OpP.move rfl) ?_
  refine RW.pureS rfl rfl rfl rfl (OpP.lenSlice Tryd.underlying25 rfl) ?_
  refine RW.pureS rfl rfl rfl rfl (OpP.lss rfl rfl) ?_
  refine RW.done rfl ?_
  refine G.sub (ρ' := [(0, _), (3, _), (4, _), (8, _)]) ⟨rfl, rfl, rfl, rfl, trivial⟩ ?_
  refine G.ite rfl rfl (fun hlt => ?_) (fun hlt => ?_)
  · have hlt' : i < n := by omega
    obtain ⟨b, o, x, ha, _, hx, hrow⟩ := hsl.recd hlt'
    have hfx := hf x (List.mem_of_getElem? hx)
    have htx := hfx.text
    have hql := quoteL_len x.text
    have hr := itoa_len hfx.rows
    have hcl := itoa_len hfx.cols
    have htake : bs (putL (l.take (i + 1))) = bs (putL (l.take i)) ++ bs (putStep x) := by rw [List.take_add_one, hx, bs_append]; congr 1; exact putL_snoc _ _
    have hc0 : cellAt h1 ⟨b, o + i * 4 + 0, none⟩ = some (.int .i64 x.kind) := hrow 0 _ rfl
    have hc1 : cellAt h1 ⟨b, o + i * 4 + 1, none⟩ = some (.string (bs x.text)) := hrow 1 _ rfl
    have hc2 : cellAt h1 ⟨b, o + i * 4 + 2, none⟩ = some (.int .i64 x.rows) := hrow 2 _ rfl
    have hc3 : cellAt h1 ⟨b, o + i * 4 + 3, none⟩ = some (.int .i64 x.cols) := hrow 3 _ rfl
    refine G.skip rfl ?_
    refine G.seq rfl ?_
    refine G.block rfl rfl ?_
    refine G.seq rfl ?_
    refine G.reg Tryd.func15 rfl ?_
    refine RW.pureS rfl rfl rfl rfl (OpP.move rfl) ?_
    refine RW.pureS rfl rfl rfl rfl (OpP.move rfl) ?_
    refine RW.pureS rfl rfl rfl rfl (OpP.indexSlice Tryd.underlying25 H.sz27 rfl rfl i rfl ha hlt') ?_
    refine RW.pureS rfl rfl rfl rfl (OpP.fieldAddr (off := 0) Tryd.underlying27 rfl rfl H.sz3 rfl) ?_
    refine RW.pureS rfl rfl rfl rfl (OpP.load H.ag3 rfl hc0) ?_
    refine RW.pureS rfl rfl rfl rfl (OpP.eqlInt rfl rfl) ?_
    refine RW.done rfl ?_
    refine G.sub (ρ' := [(0, _), (3, _), (4, _), (8, _), (16, _)]) ⟨rfl, rfl, rfl, rfl, rfl, trivial⟩ ?_
    have fin : ∀ (_u : Unit) (h' : Heap) (ρ' : Env), Sub [(0, .slice oa n c), (3, .string (bs (putL (l.take (i + 1))))), (4, .int .i64 i)] ρ' → h' = h1 → G Tryd.prog 15 Tryd.f15 [.blk 1, .code [1, 1, 0, 0, 1, 0, 1, 1], .loop [0, 0, 1, 0, 1, 1], .blk 0, .code [1, 1, 1]] ρ' h' (Ret fun r h' => r = .string (bs (putL l)) ∧ h' = h1) := by
      rintro _ hh ρ' hsub rfl
      refine G.sub (ρ' := [(0, .slice oa n c), (3, .string (bs (putL (l.take (i + 1))))), (4, .int .i64 i)]) hsub ?_
      refine G.blkEnd ?_
      refine G.reg Tryd.func15 rfl ?_
      refine RW.pureS rfl rfl rfl rfl (OpP.move rfl) ?_
      refine RW.pureS rfl rfl rfl rfl (OpP.add64 rfl rfl ⟨by omega, by omega⟩) ?_
      refine RW.pureS rfl rfl rfl rfl (OpP.assign rfl) ?_
      refine RW.done rfl ?_
      refine G.sub (ρ' := [(0, _), (3, _), (4, _)]) ⟨rfl, rfl, rfl, trivial⟩ ?_
      exact ih (i + 1) _ _ ⟨rfl, rfl, rfl, trivial⟩ ⟨rfl, by omega⟩ (by omega)
    refine G.ite rfl rfl (fun hk1 => ?_) (fun hk1 => ?_)
    · have hS : bs (putL (l.take i)) ++ (⟨#[98, 121, 116, 101, 115, 32]⟩ : ByteArray) ++ bs (quoteL x.text) ++ (⟨#[10]⟩ : ByteArray) = bs (putL (l.take (i + 1))) := by
        rw [htake, show (⟨#[98, 121, 116, 101, 115, 32]⟩ : ByteArray) = bs (bytesL ++ [32]) from rfl, show (⟨#[10]⟩ : ByteArray) = bs [10] from rfl]
        simp only [bs_append]
        unfold putStep
        rw [if_pos hk1]; simp
      have z1 : (⟨#[98, 121, 116, 101, 115, 32]⟩ : ByteArray).size = 6 := rfl
      have z2 : (bs (quoteL x.text)).size ≤ 30002 := by rw [bs_size]; omega
      have z4 : (⟨#[10]⟩ : ByteArray).size = 1 := rfl
      refine G.reg Tryd.func15 rfl ?_
      refine RW.pureS rfl rfl rfl rfl (OpP.move rfl) ?_
      refine RW.pureS rfl rfl rfl rfl (OpP.addStr rfl rfl (by omega)) ?_
      refine RW.pureS rfl rfl rfl rfl (OpP.move rfl) ?_
      refine RW.pureS rfl rfl rfl rfl (OpP.move rfl) ?_
      refine RW.pureS rfl rfl rfl rfl (OpP.indexSlice Tryd.underlying25 H.sz27 rfl rfl i rfl ha hlt') ?_
      refine RW.pureS rfl rfl rfl rfl (OpP.fieldAddr (off := 1) Tryd.underlying27 rfl rfl H.sz9 rfl) ?_
      refine RW.pureS rfl rfl rfl rfl (OpP.load H.ag9 rfl hc1) ?_
      refine RW.opS rfl rfl rfl rfl (OpX.call (vs := [_]) Tryd.func27 rfl H.nm27 rfl (CallsH.toX (quoteR_bs x.text (by omega)))) ?_
      rintro _ _ ⟨rfl, rfl⟩
      refine RW.pureS rfl rfl rfl rfl (OpP.addStr rfl rfl (by rw [ByteArray.size_append]; omega)) ?_
      refine RW.pureS rfl rfl rfl rfl (OpP.addStr rfl rfl (by rw [ByteArray.size_append, ByteArray.size_append]; omega)) ?_
      refine RW.pureS rfl rfl rfl rfl (OpP.assign rfl) ?_
      refine RW.done rfl ?_
      refine G.sub (ρ' := [(0, _), (3, _), (4, _), (8, _), (16, _)]) ⟨rfl, rfl, rfl, rfl, rfl, trivial⟩ ?_
      rw [hS]
      exact fin () _ _ ⟨rfl, rfl, rfl, trivial⟩ rfl
    · refine G.seq rfl ?_
      refine G.reg Tryd.func15 rfl ?_
      refine RW.pureS rfl rfl rfl rfl (OpP.move rfl) ?_
      refine RW.pureS rfl rfl rfl rfl (OpP.move rfl) ?_
      refine RW.pureS rfl rfl rfl rfl (OpP.indexSlice Tryd.underlying25 H.sz27 rfl rfl i rfl ha hlt') ?_
      refine RW.pureS rfl rfl rfl rfl (OpP.fieldAddr (off := 0) Tryd.underlying27 rfl rfl H.sz3 rfl) ?_
      refine RW.pureS rfl rfl rfl rfl (OpP.load H.ag3 rfl hc0) ?_
      refine RW.pureS rfl rfl rfl rfl (OpP.eqlInt rfl rfl) ?_
      refine RW.done rfl ?_
      refine G.sub (ρ' := [(0, _), (3, _), (4, _), (8, _), (16, _), (32, _)]) ⟨rfl, rfl, rfl, rfl, rfl, rfl, trivial⟩ ?_
      refine G.ite rfl rfl (fun hk2 => ?_) (fun hk2 => ?_)
      · have hS : bs (putL (l.take i)) ++ (⟨#[116, 105, 99, 107, 10]⟩ : ByteArray) = bs (putL (l.take (i + 1))) := by
          rw [htake, show (⟨#[116, 105, 99, 107, 10]⟩ : ByteArray) = bs (tickL ++ [10]) from rfl]
          unfold putStep
          rw [if_neg hk1, if_pos hk2]
        have z1 : (⟨#[116, 105, 99, 107, 10]⟩ : ByteArray).size = 5 := rfl
        refine G.reg Tryd.func15 rfl ?_
        refine RW.pureS rfl rfl rfl rfl (OpP.move rfl) ?_
        refine RW.pureS rfl rfl rfl rfl (OpP.addStr rfl rfl (by omega)) ?_
        refine RW.pureS rfl rfl rfl rfl (OpP.assign rfl) ?_
        refine RW.done rfl ?_
        refine G.sub (ρ' := [(0, _), (3, _), (4, _), (8, _), (16, _), (32, _)]) ⟨rfl, rfl, rfl, rfl, rfl, rfl, trivial⟩ ?_
        rw [hS]
        exact fin () _ _ ⟨rfl, rfl, rfl, trivial⟩ rfl
      · refine G.seq rfl ?_
        refine G.reg Tryd.func15 rfl ?_
        refine RW.pureS rfl rfl rfl rfl (OpP.move rfl) ?_
        refine RW.pureS rfl rfl rfl rfl (OpP.move rfl) ?_
        refine RW.pureS rfl rfl rfl rfl (OpP.indexSlice Tryd.underlying25 H.sz27 rfl rfl i rfl ha hlt') ?_
        refine RW.pureS rfl rfl rfl rfl (OpP.fieldAddr (off := 0) Tryd.underlying27 rfl rfl H.sz3 rfl) ?_
        refine RW.pureS rfl rfl rfl rfl (OpP.load H.ag3 rfl hc0) ?_
        refine RW.pureS rfl rfl rfl rfl (OpP.eqlInt rfl rfl) ?_
        refine RW.done rfl ?_
        refine G.sub (ρ' := [(0, _), (3, _), (4, _), (8, _), (16, _), (32, _), (40, _)]) ⟨rfl, rfl, rfl, rfl, rfl, rfl, rfl, trivial⟩ ?_
        refine G.ite rfl rfl (fun hk4 => ?_) (fun hk4 => ?_)
        · have hS : bs (putL (l.take i)) ++ (⟨#[114, 101, 115, 105, 122, 101, 32]⟩ : ByteArray) ++ bs (Lib.itoa x.rows) ++ (⟨#[32]⟩ : ByteArray) ++ bs (Lib.itoa x.cols) ++ (⟨#[10]⟩ : ByteArray) = bs (putL (l.take (i + 1))) := by
            rw [htake, show (⟨#[114, 101, 115, 105, 122, 101, 32]⟩ : ByteArray) = bs (resizeL ++ [32]) from rfl, show (⟨#[10]⟩ : ByteArray) = bs [10] from rfl, show (⟨#[32]⟩ : ByteArray) = bs [32] from rfl]
            simp only [bs_append]
            unfold putStep
            rw [if_neg hk1, if_neg hk2, if_pos hk4]; simp
          have z1 : (⟨#[114, 101, 115, 105, 122, 101, 32]⟩ : ByteArray).size = 7 := rfl
          have z2 : (bs (Lib.itoa x.rows)).size ≤ 21 := by rw [bs_size]; exact hr
          have z3 : (bs (Lib.itoa x.cols)).size ≤ 21 := by rw [bs_size]; exact hcl
          have z5 : (⟨#[32]⟩ : ByteArray).size = 1 := rfl
          have z8 : (⟨#[10]⟩ : ByteArray).size = 1 := rfl
          refine G.drawQ Tryd.func15 H.mixed rfl (by kernel_rfl) ?_
          refine RQ.pureS rfl rfl rfl rfl (OpP.move rfl) ?_
          refine RQ.pureS rfl rfl rfl rfl (OpP.addStr rfl rfl (by omega)) ?_
          refine RQ.pureS rfl rfl rfl rfl (OpP.move rfl) ?_
          refine RQ.pureS rfl rfl rfl rfl (OpP.move rfl) ?_
          refine RQ.pureS rfl rfl rfl rfl (OpP.indexSlice Tryd.underlying25 H.sz27 rfl rfl i rfl ha hlt') ?_
          refine RQ.pureS rfl rfl rfl rfl (OpP.fieldAddr (off := 2) Tryd.underlying27 rfl rfl H.sz3 rfl) ?_
          refine RQ.pureS rfl rfl rfl rfl (OpP.load H.ag3 rfl hc2) ?_
          refine RQ.callS (vs := [_]) rfl rfl rfl rfl rfl Tryd.func28 rfl H.nm28 rfl (numberR_calls x.rows hfx.rows) ?_
          refine RQ.pureS rfl rfl rfl rfl (OpP.addStr rfl rfl (by rw [ByteArray.size_append]; omega)) ?_
          refine RQ.pureS rfl rfl rfl rfl (OpP.addStr rfl rfl (by simp only [ByteArray.size_append]; omega)) ?_
          refine RQ.pureS rfl rfl rfl rfl (OpP.move rfl) ?_
          refine RQ.pureS rfl rfl rfl rfl (OpP.move rfl) ?_
          refine RQ.pureS rfl rfl rfl rfl (OpP.indexSlice Tryd.underlying25 H.sz27 rfl rfl i rfl ha hlt') ?_
          refine RQ.pureS rfl rfl rfl rfl (OpP.fieldAddr (off := 3) Tryd.underlying27 rfl rfl H.sz3 rfl) ?_
          refine RQ.pureS rfl rfl rfl rfl (OpP.load H.ag3 rfl hc3) ?_
          refine RQ.callS (vs := [_]) rfl rfl rfl rfl rfl Tryd.func28 rfl H.nm28 rfl (numberR_calls x.cols hfx.cols) ?_
          refine RQ.pureS rfl rfl rfl rfl (OpP.addStr rfl rfl (by simp only [ByteArray.size_append]; omega)) ?_
          refine RQ.pureS rfl rfl rfl rfl (OpP.addStr rfl rfl (by simp only [ByteArray.size_append]; omega)) ?_
          refine RQ.pureS rfl rfl rfl rfl (OpP.assign rfl) ?_
          refine RQ.done rfl ?_
          refine G.sub (ρ' := [(0, _), (3, _), (4, _), (8, _), (16, _), (32, _), (40, _)]) ⟨rfl, rfl, rfl, rfl, rfl, rfl, rfl, trivial⟩ ?_
          rw [hS]
          exact fin () _ _ ⟨rfl, rfl, rfl, trivial⟩ rfl
        · have hS : bs (putL (l.take i)) = bs (putL (l.take (i + 1))) := by rw [htake]; unfold putStep; rw [if_neg hk1, if_neg hk2, if_neg hk4, bs_append, List.append_nil]
          rw [hS]
          refine G.skip rfl ?_
          exact fin () _ _ ⟨rfl, rfl, rfl, trivial⟩ rfl
  · have hin : i = n := by omega
    subst hin
    rw [List.take_of_length_le (by omega)]
    refine G.exit rfl rfl ?_
    refine G.seq rfl ?_
    refine G.reg Tryd.func15 rfl ?_
    refine RW.pureS rfl rfl rfl rfl (OpP.move rfl) ?_
    refine RW.pureS rfl rfl rfl rfl (OpP.assign rfl) ?_
    refine RW.done rfl ?_
    refine G.sub (ρ' := [(0, _), (2, _), (3, _), (4, _), (8, _)]) ⟨rfl, rfl, rfl, rfl, rfl, trivial⟩ ?_
    refine G.ret Tryd.func15 rfl rfl ?_
    exact ⟨_, rfl, rfl, rfl⟩

theorem great_calls {h : Heap} {O : Nat → Prop} {v : Value} {l : List Stp} {most : Int} (hv : SlR eStep h O v l) (hl : l.length ≤ maxLen) :
    CallsH Tryd.prog 10 #[v, .int .i64 most] h (Ret fun r h' => (∃ b, r = .bool b ∧ (b = false → (l.length : Int) ≤ most ∧ ∀ x ∈ l, x.text.length ≤ 1000)) ∧ h' = h) := by
  obtain ⟨oa, n, c, rfl, hsl⟩ := hv.open
  have hn := hsl.len
  unfold maxLen at hl
  refine CallsH.of Tryd.func10 rfl rfl ?_
  refine G.seq rfl ?_
  refine G.reg Tryd.func10 rfl ?_
  refine RW.pureS rfl rfl rfl rfl (OpP.assign rfl) ?_
  refine RW.done rfl ?_
  refine G.sub (ρ' := [(0, _), (1, _), (4, _)]) ⟨rfl, rfl, rfl, trivial⟩ ?_
  refine G.seq rfl ?_
  refine G.seq rfl ?_
  refine G.reg Tryd.func10 rfl ?_
  refine RW.pureS rfl rfl rfl rfl (OpP.assign rfl) ?_
  refine RW.done rfl ?_
  refine G.sub (ρ' := [(0, _), (1, _), (4, _), (5, _)]) ⟨rfl, rfl, rfl, rfl, trivial⟩ ?_
  refine G.block rfl rfl ?_
  refine G.loop (σ := Nat) (fun i => [(0, .slice oa n c), (1, .int .i64 most), (5, .int .i64 i)]) (fun i h' => h' = h ∧ i ≤ n ∧ ∀ x ∈ l.take i, x.text.length ≤ 1000) (fun i => n - i) (0) rfl ⟨rfl, rfl, rfl, trivial⟩ ⟨rfl, Nat.zero_le _, by simp⟩ ?_
  rintro i h1 ⟨rfl, hi, hall⟩ ih
  refine G.seq rfl ?_
  refine G.seq rfl ?_
  refine G.reg Tryd.func10 rfl ?_
  refine RW.pureS rfl rfl rfl rfl (OpP.move rfl) ?_
  refine RW.pureS rfl rfl rfl rfl (OpP.move rfl) ?_
  refine RW.pureS rfl rfl rfl rfl (OpP.lenSlice Tryd.underlying22 rfl) ?_
  refine RW.pureS rfl rfl rfl rfl (OpP.lss rfl rfl) ?_
  refine RW.done rfl ?_
  refine G.sub (ρ' := [(0, _), (1, _), (5, _), (9, _)]) ⟨rfl, rfl, rfl, rfl, trivial⟩ ?_
  refine G.ite rfl rfl (fun hlt => ?_) (fun hlt => ?_)
  · have hlt' : i < n := by omega
    obtain ⟨b, o, x, ha, _, hx, hrow⟩ := hsl.recd hlt'
    have hc1 : cellAt h1 ⟨b, o + i * 4 + 1, none⟩ = some (.string (bs x.text)) := hrow 1 _ rfl
    have hsz : (bs x.text).size = x.text.length := bs_size _
    refine G.skip rfl ?_
    refine G.seq rfl ?_
    refine G.block rfl rfl ?_
    refine G.seq rfl ?_
    refine G.reg Tryd.func10 rfl ?_
    refine RW.pureS rfl rfl rfl rfl (OpP.move rfl) ?_
    refine RW.pureS rfl rfl rfl rfl (OpP.move rfl) ?_
    refine RW.pureS rfl rfl rfl rfl (OpP.indexSlice Tryd.underlying22 H.sz28 rfl rfl i rfl ha hlt') ?_
    refine RW.pureS rfl rfl rfl rfl (OpP.fieldAddr (off := 1) Tryd.underlying28 rfl rfl H.sz9 rfl) ?_
    refine RW.pureS rfl rfl rfl rfl (OpP.load H.ag9 rfl hc1) ?_
    refine RW.pureS rfl rfl rfl rfl (OpP.lenString Tryd.underlying9 rfl) ?_
    refine RW.pureS rfl rfl rfl rfl (OpP.gtr rfl rfl) ?_
    refine RW.done rfl ?_
    refine G.sub (ρ' := [(0, _), (1, _), (5, _), (9, _), (18, _)]) ⟨rfl, rfl, rfl, rfl, rfl, trivial⟩ ?_
    refine G.ite rfl rfl (fun hbig => ?_) (fun hbig => ?_)
    · refine G.seq rfl ?_
      refine G.reg Tryd.func10 rfl ?_
      refine RW.pureS rfl rfl rfl rfl (OpP.assign rfl) ?_
      refine RW.done rfl ?_
      refine G.sub (ρ' := [(0, _), (1, _), (4, _), (5, _), (9, _), (18, _)]) ⟨rfl, rfl, rfl, rfl, rfl, rfl, trivial⟩ ?_
      refine G.ret Tryd.func10 rfl rfl ?_
      exact ⟨_, rfl, ⟨true, rfl, fun k => by cases k⟩, rfl⟩
    · refine G.skip rfl ?_
      refine G.blkEnd ?_
      refine G.reg Tryd.func10 rfl ?_
      refine RW.pureS rfl rfl rfl rfl (OpP.move rfl) ?_
      refine RW.pureS rfl rfl rfl rfl (OpP.add64 rfl rfl ⟨by omega, by omega⟩) ?_
      refine RW.pureS rfl rfl rfl rfl (OpP.assign rfl) ?_
      refine RW.done rfl ?_
      refine G.sub (ρ' := [(0, _), (1, _), (5, _), (9, _), (18, _)]) ⟨rfl, rfl, rfl, rfl, rfl, trivial⟩ ?_
      exact ih (i + 1) _ _ ⟨rfl, rfl, rfl, trivial⟩ ⟨rfl, by omega, fun y hy => by rw [List.take_add_one, hx] at hy; rcases List.mem_append.1 hy with k | k; exact hall y k; (have : y = x := by simpa using k); subst this; omega⟩ (by omega)
  · have hin : i = n := by omega
    subst hin
    rw [List.take_of_length_le (by omega)] at hall
    refine G.exit rfl rfl ?_
    refine G.seq rfl ?_
    refine G.reg Tryd.func10 rfl ?_
    refine RW.pureS rfl rfl rfl rfl (OpP.move rfl) ?_
    refine RW.pureS rfl rfl rfl rfl (OpP.lenSlice Tryd.underlying22 rfl) ?_
    refine RW.pureS rfl rfl rfl rfl (OpP.move rfl) ?_
    refine RW.pureS rfl rfl rfl rfl (OpP.gtr rfl rfl) ?_
    refine RW.pureS rfl rfl rfl rfl (OpP.assign rfl) ?_
    refine RW.done rfl ?_
    refine G.sub (ρ' := [(0, _), (1, _), (4, _), (5, _), (9, _)]) ⟨rfl, rfl, rfl, rfl, rfl, trivial⟩ ?_
    refine G.ret Tryd.func10 rfl rfl ?_
    exact ⟨_, rfl, ⟨_, rfl, fun k => ⟨by have := of_decide_eq_false k; omega, hall⟩⟩, rfl⟩

end Go.Proofs.YtmbikkapabljfaaDoor
