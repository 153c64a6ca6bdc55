/- script.Put. -/
import Derived.Test.YtmbikkapabljfaaDoorScr12
import Derived.Test.YtmbikkapabljfaaDoorBuilder
namespace Go.Proofs.YtmbikkapabljfaaDoor
open Go Go.Lw
set_option maxRecDepth 20000

theorem itoa_len {n : Int} (h : -9223372036854775808 ≤ n ∧ n ≤ 9223372036854775807) : (Lib.itoa n).length ≤ 21 := by
  unfold Lib.itoa
  split
  · have := dec_len20 (u := n.natAbs) (by omega); simp; omega
  · have := dec_len20 (u := n.toNat) (by omega); omega

theorem quoteL_len (t : Bs) : (quoteL t).length ≤ 3 * t.length + 2 := by
  have := escs_len t
  simp only [quoteL, List.length_append, List.length_cons, List.length_nil]; omega

structure Fine (x : Stp) : Prop extends x.Ok where
  text : x.text.length ≤ 10000

theorem putStep_len {x : Stp} (h : Fine x) : (putStep x).length ≤ 40000 := by
  have h1 := h.text
  have h2 := quoteL_len x.text
  have h3 := itoa_len h.rows
  have h4 := itoa_len h.cols
  have e1 : bytesL.length = 5 := rfl
  have e2 : tickL.length = 4 := rfl
  have e3 : resizeL.length = 6 := rfl
  unfold putStep
  split
  · simp only [List.length_append, List.length_cons, List.length_nil]; omega
  · split
    · simp only [List.length_append, List.length_cons, List.length_nil]; omega
    · split
      · simp only [List.length_append, List.length_cons, List.length_nil]; omega
      · simp

theorem putL_len : ∀ (l : List Stp), (∀ x ∈ l, Fine x) → (putL l).length ≤ 40000 * l.length
  | [], _ => by simp [putL]
  | x :: l, h => by
    have h1 := putStep_len (h x (by simp))
    have h2 := putL_len l (fun y hy => h y (by simp [hy]))
    have e : putL (x :: l) = putStep x ++ putL l := rfl
    rw [e, List.length_append, List.length_cons]; omega

theorem putL_snoc (l : List Stp) (x : Stp) : putL (l ++ [x]) = putL l ++ putStep x := by simp [putL]

theorem quote_bs {h : Heap} (t : Bs) (ht : t.length ≤ 100000000) : CallsH Tryd.prog 24 #[.string (bs t)] h (Ret fun r h' => r = .string (bs (quoteL t)) ∧ Ext0 h h') :=
  (quote_calls (bs t) (by rw [bs_size]; exact ht)).ret fun _ _ ⟨ho, he⟩ => ⟨by rw [ho, bs_list]; rfl, he⟩

theorem itoa_bs {h : Heap} (hg : Glob h) (n : Int) (hn : -9223372036854775808 ≤ n ∧ n ≤ 9223372036854775807) : CallsH Tryd.prog 25 #[.int .i64 n] h (Ret fun r h' => r = .string (bs (Lib.itoa n)) ∧ Ext0 h h') := itoa_calls hg n hn

theorem put_calls {h : Heap} (hg : Glob h) {v : Value} {l : List Stp} (hv : SlR eStep h (fun _ => False) v l) (hl : l.length ≤ 10000) (hf : ∀ x ∈ l, Fine x) :
    CallsH Tryd.prog 14 #[v] h (Ret fun r h' => r = .string (bs (putL l)) ∧ Ext0 h h') := by
  obtain ⟨oa, n, c, rfl, hsl⟩ := hv.open
  have hn := hsl.len
  refine CallsH.of Tryd.func14 rfl rfl ?_
  refine G.seq rfl ?_
  refine G.reg Tryd.func14 rfl ?_
  refine RW.pureS rfl rfl rfl rfl (OpP.assign rfl) ?_
  refine RW.done rfl ?_
  refine G.sub (ρ' := [(0, _), (2, _)]) ⟨rfl, rfl, trivial⟩ ?_
  refine G.seq rfl ?_
  refine G.reg Tryd.func14 rfl ?_
  refine RW.opS rfl rfl rfl rfl (OpX.allocN H.zr66) ?_
  rintro _ h0 ⟨rfl, hk0, he0, hs0⟩
  refine RW.done rfl ?_
  refine G.sub (ρ' := [(0, _), (2, _), (3, _)]) ⟨rfl, rfl, rfl, trivial⟩ ?_
  refine G.seq rfl ?_
  refine G.seq rfl ?_
  refine G.reg Tryd.func14 rfl ?_
  refine RW.pureS rfl rfl rfl rfl (OpP.move rfl) ?_
  refine RW.pureS rfl rfl rfl rfl (OpP.lenSlice Tryd.underlying22 rfl) ?_
  refine RW.pureS rfl rfl rfl rfl (OpP.move rfl) ?_
  refine RW.done rfl ?_
  refine G.sub (ρ' := [(0, _), (2, _), (3, _), (6, _), (7, _), (8, _)]) ⟨rfl, rfl, rfl, rfl, rfl, rfl, trivial⟩ ?_
  refine G.block rfl rfl ?_
  have hb0 : BldH h0 h.size 66 5 [] := BldH.fresh hk0
  refine G.loop (σ := Nat) (fun i => [(3, .pointer (some ⟨h.size, 0, none⟩)), (6, .slice oa n c), (7, .int .i64 n), (8, .int .i64 i)]) (fun i h' => Ext0 h h' ∧ i ≤ n ∧ BldH h' h.size 66 5 (putL (l.take i))) (fun i => n - i) (0) rfl ⟨rfl, rfl, rfl, rfl, trivial⟩ ⟨he0, Nat.zero_le _, hb0⟩ ?_
  rintro i h1 ⟨he1, hi, hb⟩ ih
  have hlen : (putL (l.take i)).length ≤ 40000 * i := by
    have h1 := putL_len (l.take i) (fun x hx => hf x (List.mem_of_mem_take hx))
    have h2 : (l.take i).length ≤ i := by simp; omega
    omega
  refine G.seq rfl ?_
  refine G.reg Tryd.func14 rfl ?_
  refine RW.pureS rfl rfl rfl rfl (OpP.lss rfl rfl) ?_
  refine RW.done rfl ?_
  refine G.sub (ρ' := [(3, _), (6, _), (7, _), (8, _), (9, _)]) ⟨rfl, rfl, rfl, rfl, rfl, trivial⟩ ?_
  refine G.seq rfl ?_
  refine G.ite rfl rfl (fun hlt => ?_) (fun hlt => ?_)
  · have hlt' : i < n := by omega
    have hsl1 := hsl.mv (Mv.ext0 he1)
    obtain ⟨b, o, x, ha, _, hx, hrow⟩ := hsl1.recd hlt'
    have hfx := hf x (List.mem_of_getElem? hx)
    have htx := hfx.text
    have hql := quoteL_len x.text
    have hr := itoa_len hfx.rows
    have hcl := itoa_len hfx.cols
    have htake : putL (l.take (i + 1)) = putL (l.take i) ++ putStep x := by rw [List.take_add_one, hx]; exact putL_snoc _ _
    refine G.skip rfl ?_
    refine G.seq rfl ?_
    refine G.block rfl rfl ?_
    refine G.seq rfl ?_
    refine G.reg Tryd.func14 rfl ?_
    refine RW.pureS rfl rfl rfl rfl (OpP.indexSlice Tryd.underlying22 H.sz28 rfl rfl i rfl ha hlt') ?_
    refine RW.pureS rfl rfl rfl rfl (OpP.loadRowN H.ag28 H.sz28 rfl hrow (by first | rfl | simp)) ?_
    refine RW.opS rfl rfl rfl rfl (OpX.allocN H.zr28) ?_
    rintro _ h2 ⟨rfl, hk2, he2, hs2⟩
    refine RW.op0 rfl rfl rfl (OpX.storeBlk H.sz28 rfl rfl hk2 rfl (by first | decide | simp | (simp; omega)) (encS_one x)) ?_
    rintro _ h3 ⟨rfl, hk3, hx3, hs3⟩
    refine RW.done rfl ?_
    refine G.sub (ρ' := [(3, _), (5, _), (6, _), (7, _), (8, _), (9, _)]) ⟨rfl, rfl, rfl, rfl, rfl, rfl, trivial⟩ ?_
    refine G.seq rfl ?_
    refine G.reg Tryd.func14 rfl ?_
    refine RW.pureS rfl rfl rfl rfl (OpP.fieldAddr (off := 0) Tryd.underlying28 rfl rfl H.sz3 rfl) ?_
    refine RW.pureS rfl rfl rfl rfl (OpP.load H.ag3 rfl (hk3.cell (i := 0) rfl)) ?_
    refine RW.done rfl ?_
    refine G.sub (ρ' := [(3, _), (5, _), (6, _), (7, _), (8, _), (9, _), (13, _)]) ⟨rfl, rfl, rfl, rfl, rfl, rfl, rfl, trivial⟩ ?_
    refine G.block rfl rfl ?_
    refine G.seq rfl ?_
    refine G.reg Tryd.func14 rfl ?_
    refine RW.pureS rfl rfl rfl rfl (OpP.eqlInt rfl rfl) ?_
    refine RW.pureS rfl rfl rfl rfl (OpP.assign rfl) ?_
    refine RW.done rfl ?_
    refine G.sub (ρ' := [(3, _), (5, _), (6, _), (7, _), (8, _), (9, _), (13, _), (14, _)]) ⟨rfl, rfl, rfl, rfl, rfl, rfl, rfl, rfl, trivial⟩ ?_
    have he3 : Ext0 h1 h3 := Ext0.only he2 hx3 (Nat.le_refl _)
    have hb3 := BldH.ext0 hb he3
    have hk3' : Blk h3 h1.size 28 (encS x) := hk3
    have fin : ∀ (_u : Unit) (h' : Heap) (ρ' : Env), Sub [(3, .pointer (some ⟨h.size, 0, none⟩)), (6, .slice oa n c), (7, .int .i64 n), (8, .int .i64 i)] ρ' → Ext0 h h' → BldH h' h.size 66 5 (putL (l.take (i + 1))) → G Tryd.prog 14 Tryd.f14 [.blk 2, .blk 1, .code [1, 1, 1, 0, 0, 1, 0, 1, 1], .loop [0, 0, 1, 0, 1, 1], .blk 0, .code [1, 1, 1]] ρ' h' (Ret fun r h' => r = .string (bs (putL l)) ∧ Ext0 h h') := by
      rintro _ hh ρ' hsub he hbh
      refine G.sub (ρ' := [(3, .pointer (some ⟨h.size, 0, none⟩)), (6, .slice oa n c), (7, .int .i64 n), (8, .int .i64 i)]) hsub ?_
      refine G.blkEnd ?_
      refine G.blkEnd ?_
      refine G.reg Tryd.func14 rfl ?_
      refine RW.pureS rfl rfl rfl rfl (OpP.add64 rfl rfl ⟨by omega, by omega⟩) ?_
      refine RW.pureS rfl rfl rfl rfl (OpP.move rfl) ?_
      refine RW.done rfl ?_
      refine G.sub (ρ' := [(3, _), (6, _), (7, _), (8, _)]) ⟨rfl, rfl, rfl, rfl, trivial⟩ ?_
      exact ih (i + 1) _ _ ⟨rfl, rfl, rfl, rfl, trivial⟩ ⟨he, by omega, hbh⟩ (by omega)
    refine G.ite rfl rfl (fun hk1 => ?_) (fun hk1 => ?_)
    · have hS : ((⟨#[98, 121, 116, 101, 115, 32]⟩ : ByteArray) ++ bs (quoteL x.text) ++ (⟨#[10]⟩ : ByteArray)).data.toList = putStep x := by
        rw [show (⟨#[98, 121, 116, 101, 115, 32]⟩ : ByteArray) = bs (bytesL ++ [32]) from rfl, show (⟨#[10]⟩ : ByteArray) = bs [10] from rfl, bs_append, bs_append, bs_list]
        unfold putStep
        rw [if_pos hk1]; simp
      have z1 : (⟨#[98, 121, 116, 101, 115, 32]⟩ : ByteArray).size = 6 := rfl
      have z2 : (bs (quoteL x.text)).size ≤ 30002 := by rw [bs_size]; omega
      have z3 : ((⟨#[98, 121, 116, 101, 115, 32]⟩ : ByteArray) ++ bs (quoteL x.text)).size ≤ 30008 := by rw [ByteArray.size_append]; omega
      have z4 : (⟨#[10]⟩ : ByteArray).size = 1 := rfl
      have z5 : ((⟨#[98, 121, 116, 101, 115, 32]⟩ : ByteArray) ++ bs (quoteL x.text) ++ (⟨#[10]⟩ : ByteArray)).size ≤ 30009 := by rw [ByteArray.size_append]; omega
      refine G.reg Tryd.func14 rfl ?_
      refine RW.pureS rfl rfl rfl rfl (OpP.fieldAddr (off := 1) Tryd.underlying28 rfl rfl H.sz9 rfl) ?_
      refine RW.pureS rfl rfl rfl rfl (OpP.load H.ag9 rfl (hk3'.cell (i := 1) rfl)) ?_
      refine RW.opS rfl rfl rfl rfl (OpX.call (vs := [_]) Tryd.func24 rfl H.nm24 rfl (CallsH.toX (quote_bs x.text (by omega)))) ?_
      rintro _ h4 ⟨rfl, he4⟩
      refine RW.pureS rfl rfl rfl rfl (OpP.addStr rfl rfl (by omega)) ?_
      refine RW.pureS rfl rfl rfl rfl (OpP.addStr rfl rfl (by omega)) ?_
      refine RW.opS rfl rfl rfl rfl (OpX.call (vs := [_, _]) Tryd.func23 rfl H.nm23 rfl (CallsH.toX (writeString_calls _ (BldH.ext0 hb3 he4) (by omega)))) ?_
      rintro _ h5 ⟨rfl, hb5, hx5⟩
      refine RW.done rfl ?_
      refine G.sub (ρ' := [(3, _), (5, _), (6, _), (7, _), (8, _), (9, _), (13, _), (14, _)]) ⟨rfl, rfl, rfl, rfl, rfl, rfl, rfl, rfl, trivial⟩ ?_
      rw [hS] at hb5
      exact fin () _ _ ⟨rfl, rfl, rfl, rfl, trivial⟩ (Ext0.above ((he1.trans he3).trans he4) hx5 (Nat.le_refl _)) (by rw [htake]; exact hb5)
    · refine G.seq rfl ?_
      refine G.reg Tryd.func14 rfl ?_
      refine RW.pureS rfl rfl rfl rfl (OpP.eqlInt rfl rfl) ?_
      refine RW.pureS rfl rfl rfl rfl (OpP.assign rfl) ?_
      refine RW.done rfl ?_
      refine G.sub (ρ' := [(3, _), (5, _), (6, _), (7, _), (8, _), (9, _), (13, _), (14, _), (22, _)]) ⟨rfl, rfl, rfl, rfl, rfl, rfl, rfl, rfl, rfl, trivial⟩ ?_
      refine G.ite rfl rfl (fun hk2 => ?_) (fun hk2 => ?_)
      · have hS : (⟨#[116, 105, 99, 107, 10]⟩ : ByteArray).data.toList = putStep x := by
          unfold putStep
          rw [if_neg hk1, if_pos hk2]; rfl
        have z1 : (⟨#[116, 105, 99, 107, 10]⟩ : ByteArray).size = 5 := rfl
        refine G.reg Tryd.func14 rfl ?_
        refine RW.opS rfl rfl rfl rfl (OpX.call (vs := [_, _]) Tryd.func23 rfl H.nm23 rfl (CallsH.toX (writeString_calls _ hb3 (by omega)))) ?_
        rintro _ h5 ⟨rfl, hb5, hx5⟩
        refine RW.done rfl ?_
        refine G.sub (ρ' := [(3, _), (5, _), (6, _), (7, _), (8, _), (9, _), (13, _), (14, _), (22, _)]) ⟨rfl, rfl, rfl, rfl, rfl, rfl, rfl, rfl, rfl, trivial⟩ ?_
        rw [hS] at hb5
        exact fin () _ _ ⟨rfl, rfl, rfl, rfl, trivial⟩ (Ext0.above (he1.trans he3) hx5 (Nat.le_refl _)) (by rw [htake]; exact hb5)
      · refine G.seq rfl ?_
        refine G.reg Tryd.func14 rfl ?_
        refine RW.pureS rfl rfl rfl rfl (OpP.eqlInt rfl rfl) ?_
        refine RW.pureS rfl rfl rfl rfl (OpP.assign rfl) ?_
        refine RW.done rfl ?_
        refine G.sub (ρ' := [(3, _), (5, _), (6, _), (7, _), (8, _), (9, _), (13, _), (14, _), (22, _), (25, _)]) ⟨rfl, rfl, rfl, rfl, rfl, rfl, rfl, rfl, rfl, rfl, trivial⟩ ?_
        refine G.ite rfl rfl (fun hk4 => ?_) (fun hk4 => ?_)
        · have hS : ((⟨#[114, 101, 115, 105, 122, 101, 32]⟩ : ByteArray) ++ bs (Lib.itoa x.rows) ++ (⟨#[32]⟩ : ByteArray) ++ bs (Lib.itoa x.cols) ++ (⟨#[10]⟩ : ByteArray)).data.toList = putStep x := by
            rw [show (⟨#[114, 101, 115, 105, 122, 101, 32]⟩ : ByteArray) = bs (resizeL ++ [32]) from rfl, show (⟨#[10]⟩ : ByteArray) = bs [10] from rfl, show (⟨#[32]⟩ : ByteArray) = bs [32] from rfl, bs_append, bs_append, bs_append, bs_append, bs_list]
            unfold putStep
            rw [if_neg hk1, if_neg hk2, if_pos hk4]; simp
          have z1 : (⟨#[114, 101, 115, 105, 122, 101, 32]⟩ : ByteArray).size = 7 := rfl
          have z2 : (bs (Lib.itoa x.rows)).size ≤ 21 := by rw [bs_size]; exact hr
          have z3 : (bs (Lib.itoa x.cols)).size ≤ 21 := by rw [bs_size]; exact hcl
          have z4 : ((⟨#[114, 101, 115, 105, 122, 101, 32]⟩ : ByteArray) ++ bs (Lib.itoa x.rows)).size ≤ 28 := by rw [ByteArray.size_append]; omega
          have z5 : (⟨#[32]⟩ : ByteArray).size = 1 := rfl
          have z6 : ((⟨#[114, 101, 115, 105, 122, 101, 32]⟩ : ByteArray) ++ bs (Lib.itoa x.rows) ++ (⟨#[32]⟩ : ByteArray)).size ≤ 29 := by rw [ByteArray.size_append]; omega
          have z7 : ((⟨#[114, 101, 115, 105, 122, 101, 32]⟩ : ByteArray) ++ bs (Lib.itoa x.rows) ++ (⟨#[32]⟩ : ByteArray) ++ bs (Lib.itoa x.cols)).size ≤ 50 := by rw [ByteArray.size_append]; omega
          have z8 : (⟨#[10]⟩ : ByteArray).size = 1 := rfl
          have z9 : ((⟨#[114, 101, 115, 105, 122, 101, 32]⟩ : ByteArray) ++ bs (Lib.itoa x.rows) ++ (⟨#[32]⟩ : ByteArray) ++ bs (Lib.itoa x.cols) ++ (⟨#[10]⟩ : ByteArray)).size ≤ 51 := by rw [ByteArray.size_append]; omega
          obtain ⟨p, w, hkb, hpb, hvb⟩ := hb
          have hlt1 := hkb.lt
          have hlt3 := hk3'.lt
          have hnM : ¬ (h1.size = h.size ∨ but w.ownBlock h1.size ∨ h3.size ≤ h1.size) := by
            rintro (e | e | e)
            · omega
            · have := (OwnH.lt hvb e.symm).2; omega
            · omega
          have hg3 := hg.ext0 (he1.trans he3)
          refine G.draw (fun g => g = h.size ∨ but w.ownBlock g ∨ h3.size ≤ g) (fun i => Nat.blt i 11) (sz := 11) (listed := #[false, false, false, false, false, false, false, false, false, false, false]) Tryd.func14 H.mixed rfl rfl rfl ?_
          refine RD.takeS 0 (listed' := #[true, false, false, false, false, false, false, false, false, false, false]) rfl (by kernel_rfl) (by kernel_rfl) (by kernel_rfl) rfl rfl rfl (fun h' e => OpP.fieldAddr (off := 2) Tryd.underlying28 rfl rfl H.sz3 rfl) rfl ?_
          refine RD.takeS 1 (listed' := #[true, true, false, false, false, false, false, false, false, false, false]) rfl (by kernel_rfl) (by kernel_rfl) (by kernel_rfl) rfl rfl rfl (fun h' e => OpP.load H.ag3 rfl (e.cell hnM (hk3'.cell (i := 2) rfl))) rfl ?_
          refine RD.takeS 5 (listed' := #[true, true, false, false, false, true, false, false, false, false, false]) rfl (by kernel_rfl) (by kernel_rfl) (by kernel_rfl) rfl rfl rfl (fun h' e => OpP.fieldAddr (off := 3) Tryd.underlying28 rfl rfl H.sz3 rfl) rfl ?_
          refine RD.takeS 6 (listed' := #[true, true, false, false, false, true, true, false, false, false, false]) rfl (by kernel_rfl) (by kernel_rfl) (by kernel_rfl) rfl rfl rfl (fun h' e => OpP.load H.ag3 rfl (e.cell hnM (hk3'.cell (i := 3) rfl))) rfl ?_
          refine RD.oneS 2 (listed' := #[true, true, true, false, false, true, true, false, false, false, false]) rfl (by kernel_rfl) rfl rfl rfl (OpX.call (vs := [_]) Tryd.func25 rfl H.nm25 rfl (CallsH.toX (itoa_bs hg3 x.rows hfx.rows))) rfl ?_
          rintro _ h4 ⟨rfl, he4⟩
          refine ⟨fun _ => he4.of, ?_⟩
          refine RD.takeS 3 (listed' := #[true, true, true, true, false, true, true, false, false, false, false]) rfl (by kernel_rfl) (by kernel_rfl) (by kernel_rfl) rfl rfl rfl (fun h' e => OpP.addStr rfl rfl (by omega)) rfl ?_
          refine RD.takeS 4 (listed' := #[true, true, true, true, true, true, true, false, false, false, false]) rfl (by kernel_rfl) (by kernel_rfl) (by kernel_rfl) rfl rfl rfl (fun h' e => OpP.addStr rfl rfl (by omega)) rfl ?_
          refine RD.oneS 7 (listed' := #[true, true, true, true, true, true, true, true, false, false, false]) rfl (by kernel_rfl) rfl rfl rfl (OpX.call (vs := [_]) Tryd.func25 rfl H.nm25 rfl (CallsH.toX (itoa_bs (hg3.ext0 he4) x.cols hfx.cols))) rfl ?_
          rintro _ h5 ⟨rfl, he5⟩
          refine ⟨fun _ => he5.of, ?_⟩
          refine RD.takeS 8 (listed' := #[true, true, true, true, true, true, true, true, true, false, false]) rfl (by kernel_rfl) (by kernel_rfl) (by kernel_rfl) rfl rfl rfl (fun h' e => OpP.addStr rfl rfl (by omega)) rfl ?_
          refine RD.takeS 9 (listed' := #[true, true, true, true, true, true, true, true, true, true, false]) rfl (by kernel_rfl) (by kernel_rfl) (by kernel_rfl) rfl rfl rfl (fun h' e => OpP.addStr rfl rfl (by omega)) rfl ?_
          refine RD.oneS 10 (listed' := #[true, true, true, true, true, true, true, true, true, true, true]) rfl (by kernel_rfl) rfl rfl rfl (OpX.call (vs := [_, _]) Tryd.func23 rfl H.nm23 rfl (CallsH.toX (writeString_at _ (((hkb.ext0 he3).ext0 he4).ext0 he5) hpb (OwE.ext0 (OwE.ext0 (OwE.ext0 hvb he3) he4) he5) (by omega)))) rfl ?_
          rintro _ h6 ⟨rfl, hb6, hx6⟩
          refine ⟨fun _ => hx6.mono (fun _ _ k => k.elim .inl (fun k => .inr (.inl k))), ?_⟩
          refine RD.done (by kernel_rfl) ?_
          refine G.sub (ρ' := [(3, _), (5, _), (6, _), (7, _), (8, _), (9, _), (13, _), (14, _), (22, _), (25, _)]) ⟨rfl, rfl, rfl, rfl, rfl, rfl, rfl, rfl, rfl, rfl, trivial⟩ ?_
          rw [hS] at hb6
          have hx6' : Ext (fun g => h.size ≤ g) h5 h6 := hx6.mono (fun g _ k => by rcases k with k | k; { show h.size ≤ g; omega }; { have := own_ne hvb g k; show h.size ≤ g; omega })
          exact fin () _ _ ⟨rfl, rfl, rfl, rfl, trivial⟩ (Ext0.above (((he1.trans he3).trans he4).trans he5) hx6' (Nat.le_refl _)) (by rw [htake]; exact hb6)
        · have hS : putStep x = [] := by unfold putStep; rw [if_neg hk1, if_neg hk2, if_neg hk4]
          refine G.skip rfl ?_
          exact fin () _ _ ⟨rfl, rfl, rfl, rfl, trivial⟩ (he1.trans he3) (by rw [htake, hS, List.append_nil]; exact hb3)
  · have hin : i = n := by omega
    subst hin
    rw [List.take_of_length_le (by omega)] at hb hlen
    refine G.exit rfl rfl ?_
    refine G.seq rfl ?_
    refine G.reg Tryd.func14 rfl ?_
    refine RW.opS rfl rfl rfl rfl (OpX.call (vs := [_]) Tryd.func26 rfl H.nm26 rfl (CallsH.toX (bString_calls hb (by omega)))) ?_
    rintro _ h2 ⟨rfl, hx2⟩
    refine RW.pureS rfl rfl rfl rfl (OpP.assign rfl) ?_
    refine RW.done rfl ?_
    refine G.sub (ρ' := [(2, _), (3, _), (6, _), (7, _), (8, _), (9, _)]) ⟨rfl, rfl, rfl, rfl, rfl, rfl, trivial⟩ ?_
    refine G.ret Tryd.func14 rfl rfl ?_
    exact ⟨_, rfl, rfl, Ext0.above he1 hx2 (Nat.le_refl _)⟩

end Go.Proofs.YtmbikkapabljfaaDoor
