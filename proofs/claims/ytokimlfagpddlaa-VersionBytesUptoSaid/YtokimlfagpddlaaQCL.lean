/-
  VersionBytes, where an edit and a text are together of bulk at most 1048576: what is written, and what is read, is what the document says, or refused.
-/
import Derived.Test.YtokimlfagpddlaaRows
import Derived.WalkKit
import Derived.ProofKit
import Derived.OpenShut
import Derived.ShutString
import Derived.ChangeOld
import Derived.Below
import Derived.SizedLaws
import Derived.JoinedCond
import Derived.Deep.CondSized
import Derived.Test.YtokimlfagpddlaaQC5
namespace Go.Proofs.Ytokimlfagpddlaa
open Go.ChangeShapes Go.WideShapes Go.ChangeAt Go.RowKit Go.Proofs.YtokimlfagpddlaaW.PrintWords
open Go.ChangeMaps (open_string shut_string)
theorem versionBytes_own : ownKnob Try.prog.godebug = none := by kernel_rfl
theorem versionBytes_laidOut : laidOutB Try.prog = true := by kernel_rfl
/-! ### what the bound on the bulk gives: how many tables and logs there are -/
theorem PD.bulk_pos {H : Type} (d : DataW H) : 1 ≤ Rows.uptoBulk d := by
  cases d with
  | lit l => cases l <;> simp [Rows.uptoBulk]
  | _ => simp [Rows.uptoBulk]
theorem PD.bulk_many {H : Type} : ∀ (l : List (DataW H)), l.length ≤ Rows.uptoBulkAll l
  | [] => by simp [Rows.uptoBulkAll]
  | d :: l => by
    have := PD.bulk_pos d
    have := PD.bulk_many l
    simp only [Rows.uptoBulkAll, List.length_cons]
    omega
theorem PD.bulk_slice {H : Type} {enc : TypeId × Value → H} {P : Program} {w : World} {base : Nat} {spare : Nat → Bool} {held : Bool} {fuel : Nat} {t e : TypeId} {A : Option Addr} {len cap : Nat} {x : DataW H × List MemPlace}
    (ht : P.underlying t = some (.slice e)) (hx : DataW.trod enc P w base spare held fuel t [.slice A len cap] = some x) : len + 1 ≤ Rows.uptoBulk x.1 := by
  rcases Deep.open_slice ht hx with ⟨e1, rfl⟩ | ⟨a, len', cap', m, n, D, Pl, e1, hbl, hl, hm, hmm, rfl, hi⟩
  · simp only [List.cons.injEq, Value.slice.injEq, and_true] at e1
    obtain ⟨-, rfl, -⟩ := e1
    simp [Rows.uptoBulk]
  · simp only [List.cons.injEq, Value.slice.injEq, and_true] at e1
    obtain ⟨-, rfl, -⟩ := e1
    have h1 := PD.bulk_many ((List.range len).map D)
    simp only [List.length_map, List.length_range] at h1
    simp only [Rows.uptoBulk]
    omega
set_option maxRecDepth 100000 in
theorem PD.bulk_edit {H : Type} {enc : TypeId × Value → H} {w : World} {base : Nat} {spare : Nat → Bool} {held : Bool} {A B C D : Option Addr} {n m i j c c' c2 c3 : Nat} {z : Int} {d : DataW H} {p : List MemPlace}
    (h : DataW.Trod enc Try.prog w base spare held 32 (.agg #[.slice A n c, .slice B m c', .slice C i c2, .slice D j c3, .int .i64 z]) d p) : n + m + i + j ≤ Rows.uptoBulk d := by
  obtain ⟨fuel, hf⟩ := h
  obtain ⟨xs, k, -, he, hl, hxl, hi⟩ := DataW.trod_struct Try.underlying32 hf
  match xs, hxl with
  | [x0, x1, x2, x3, x4], _ =>
    have h0 := PD.bulk_slice (x := x0) Try.underlying22 (hi 0 _ rfl)
    have h1 := PD.bulk_slice (x := x1) Try.underlying23 (hi 1 _ rfl)
    have h2 := PD.bulk_slice (x := x2) Try.underlying23 (hi 2 _ rfl)
    have h3 := PD.bulk_slice (x := x3) Try.underlying23 (hi 3 _ rfl)
    simp only [Prod.mk.injEq] at he
    rw [he.1]
    simp only [List.map_cons, List.map_nil, Rows.uptoBulk, Rows.uptoBulkAll]
    omega
set_option maxRecDepth 100000 in
theorem versionBytes_lifted (os : Os) (started : os.Started) (H : Type) (enc : TypeId × Value → H) (F : Stop.Interp) :
    ReturnsInHanded {} Try.checked os 7 .any ((Rows.OpenSpec.upto Rows.versionBytesSpec).pre6 enc Try.prog Try.f7 Rows.versionBytesUptoRow.domain false) (((Rows.OpenSpec.upto Rows.versionBytesSpec).at F).post enc Try.prog Try.f7 false true false false) := by
  refine returnsInHanded_of_cond_sized (C := Try.checked) (s := Rows.OpenSpec.upto Rows.versionBytesSpec) (k := Rows.uptoSmall) rfl versionBytes_own started (by kernel_rfl) Try.func7
    (OpenSpec.witness (enc := enc) (C := Try.checked) (s := Rows.OpenSpec.upto Rows.versionBytesSpec) (k := Rows.uptoSmall) rfl false ⟨#[], #[.agg #[.slice none 0 0, .slice none 0 0, .slice none 0 0, .slice none 0 0, .int .i64 0], .string ByteArray.empty], []⟩ 8 (by kernel_rfl) (by kernel_rfl) (by kernel_rfl)
      (x := ([.agg [.nil, .nil, .nil, .nil, .lit (.int .i64 0)], .lit (.string [])], [], [])) (by kernel_rfl) rfl (by kernel_rfl)) ?_
  intro W base args ds gs before hval0 hW _ hk0 hsz0 _
  show Calls Try.prog 7 args W fun e W' => ∃ v, e = .returned v ∧ Rows.versionBytesSpec.post enc Try.prog Try.f7 false true false false W args v W'
  have hsz : (DataW.weightsEach Try.prog (Try.f7.params.toList ++ Rows.versionBytesSpec.plain.varTypes Try.prog) (ds ++ gs)).all (· ≤ reachBytes) = true := hsz0
  have hval : ∀ (j : Nat) t v, Try.f7.params[j]? = some t → args[j]? = some v → Value.okWide Try.prog W .any base t v := hval0
  have hW' := hW
  obtain ⟨p, q, hA0, hV, rfl, hfz, hnd⟩ := hW
  have hA : DataW.TrodAll enc Try.prog W 0 (fun _ => true) true Try.f7.params.toList args.toList ds p := hA0
  rw [Try.params7] at hA hval hsz
  obtain ⟨v0, vs0, d0, ds0, p0, q0, hargs, rfl, rfl, h0, r0⟩ := trodAll_cons hA
  obtain ⟨v1, vs1, d1, ds1, p1, q1, rfl, rfl, rfl, h1, r1⟩ := trodAll_cons r0
  obtain ⟨rfl, rfl, rfl⟩ := trodAll_nil r1
  obtain rfl : args = #[v0, v1] := by cases args; simp_all
  obtain ⟨rfl, rfl⟩ := trodVars_none hV
  have k0 := h0
  have lt0 : ∀ x ∈ p0, x.block < W.heap.size := by obtain ⟨m, hm⟩ := k0; exact DataW.trod_lt m _ _ _ hm
  obtain ⟨cs0, rfl, hs0⟩ := okWide_struct Try.underlying32 (hval 0 32 v0 rfl rfl)
  obtain ⟨x0, kx0, g0⟩ := PD.opn_Edit.arg h0 hsz (j := 0) rfl rfl
  obtain ⟨_, _, e0, ⟨A0_0, c0_0, rfl, hc0_0, hr0_0⟩, _, _, rfl, ⟨A0_1, c0_1, rfl, hc0_1, hr0_1⟩, _, _, rfl, ⟨A0_2, c0_2, rfl, hc0_2, hr0_2⟩, _, _, rfl, ⟨A0_3, c0_3, rfl, hc0_3, hr0_3⟩, rfl⟩ := kx0
  obtain rfl : cs0 = #[.slice A0_0 x0.1.length c0_0, .slice A0_1 x0.2.1.length c0_1, .slice A0_2 x0.2.2.1.length c0_2, .slice A0_3 x0.2.2.2.1.length c0_3, .int .i64 x0.2.2.2.2] := by cases cs0; simpa [Value.cells] using e0
  obtain ⟨a1, rfl, rfl, rfl, y1⟩ := open_string Try.underlying9 (hval 1 9 v1 rfl rfl) h1
  have hblk : x0.1.length + x0.2.1.length + x0.2.2.1.length + x0.2.2.2.1.length ≤ 1048576 ∧ a1.size ≤ 1048576 := by
    have b1 : Rows.uptoBulkAll [d0, _] ≤ 1048576 := of_decide_eq_true hk0
    have b2 := PD.bulk_edit k0
    simp only [Rows.uptoBulkAll, Rows.uptoBulk] at b1
    have b3 : a1.size = a1.data.toList.length := by simp
    omega
  clear hA0 hval0 hsz0 hsz hk0
  refine (PD.bytes_calls A0_0 c0_0 x0.1 A0_1 c0_1 x0.2.1 A0_2 c0_2 x0.2.2.1 A0_3 c0_3 x0.2.2.2.1 x0.2.2.2.2 a1 W hr0_0 hc0_0 hr0_1 hc0_1 hr0_2 hc0_2 hr0_3 hc0_3 hblk.2 hblk.1).mono fun e W' ⟨he, bel⟩ => ?_
  subst he
  exact ⟨_, rfl, _, _, _, [], _, [], hW', trodAll_mk1 (shut_bool Try.underlying4 _), (trodAll_cons_mk (Below.trod versionBytes_laidOut (by kernel_rfl) (of_decide_eq_true (by kernel_rfl)) k0 bel lt0) (trodAll_cons_mk (shut_string Try.underlying9 y1) (trodAll_mk0))), rfl, bel.frame _, fun h => by cases h⟩
/-- The statement. -/
theorem versionBytes_holds : Rows.VersionBytesUptoSaid :=
  OpenClaim.holds_of_cond 7 Try.f7 rfl rfl rfl rfl rfl rfl rfl ⟨rfl, rfl, rfl, rfl, rfl⟩ rfl rfl rfl rfl rfl (by kernel_rfl) Try.func7 (by kernel_rfl)
    (of_decide_eq_true (by kernel_rfl)) (by unfold Func.isWrapper; first | (rw [if_pos (by decide +kernel)]; kernel_rfl) | (rw [if_neg (by decide +kernel)]; exact ⟨rfl, rfl⟩))
    (fun os started H enc _ F => versionBytes_lifted os started H enc F)
#print axioms versionBytes_holds
end Go.Proofs.Ytokimlfagpddlaa
