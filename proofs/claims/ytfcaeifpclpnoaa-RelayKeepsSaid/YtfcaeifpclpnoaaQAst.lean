/-
  A text's octets behind a row of octets. No conditions.
-/
import Derived.Test.YtfcaeifpclpnoaaQSle
import Derived.Lib.AppendStr
namespace Go.Proofs.Ytfcaeifpclpnoaa.Eng
open Go Go.RowKit
set_option linter.unusedVariables false
set_option linter.unusedSimpArgs false
set_option linter.unusedSectionVars false
set_option maxHeartbeats 2000000
section
variable {P : Program} {c : Cx} {l : TL} {H : List Asrt} {Q : Exit → Act → World → Prop} {X : Act → World → Prop}
variable {ty : TypeId} {pos : String} {af : Array Edge} {d : Nat} {v : Value}
theorem strCells_bcs (bs : List UInt8) : Lib.strCells ⟨bs.toArray⟩ = bcs bs := by
  simp only [Lib.strCells, bcs]
theorem bcs_one (bs : List UInt8) : ∀ u ∈ bcs bs, u.oneCell' = true := by
  rw [← strCells_bcs]
  exact Lib.strCells_oneCell _
theorem J.appendStr {T U E bytes : Nat} {z : List Value} [i : Sl P T E bytes] [t : Ty P E false 1 z] [us : StrT P U] {s x : Operand} {n : Nat} {C : List Value} {H1 : List Asrt} {bs : List UInt8} (hd : Nat.blt d c.n = true) (hs : ev l s = some v) (ho : Out (row v E 1 n C) H H1) (hx : ev l x = some (str bs))
    (hz : z.length = 1) (hn0 : 0 < n) (h63 : n + bs.length ≤ maxLen) (hby : (n + bs.length) * bytes ≤ 140737488355328)
    (K : ∀ q : Option Addr × Nat, n + bs.length ≤ q.2 → J c ((d, .slice q.1 (n + bs.length) q.2) :: l) (row (.slice q.1 (n + bs.length) q.2) E 1 (n + bs.length) (C ++ bcs bs) :: H1) X) : J c l H (OW P Q ⟨some d, .call ⟨.builtin .append, #[s, x], #[T, U]⟩, ty, pos, af, none⟩ X) :=
  J.opv fun a w st => by
    obtain ⟨cbs, hrun⟩ := run_builtin (P := P) (b := .append) (xs := [s, x]) (ts := #[T, U]) (vs := [v, str bs]) (dst := some d) (ty := ty) (pos := pos) (af := af) st.1 (by simp [evs, hs, hx]) w
    rw [show ([s, x] : List Operand).toArray = #[s, x] from rfl] at hrun
    have hsi := t.siz
    have hzi := t.zer
    have hbi := i.byt
    obtain ⟨inf, hinf⟩ : ∃ inf, P.info? E = some inf := by
      cases hu : P.info? E with
      | none => rw [hu] at hsi; cases hsi
      | some x => exact ⟨x, rfl⟩
    rw [hinf] at hsi hzi hbi
    simp only [Option.map_some, Option.some.injEq] at hsi hzi hbi
    obtain ⟨zv, hzv⟩ : ∃ zv, inf.zero = some zv := by
      cases hu : inf.zero with
      | none => rw [hu] at hzi; cases hzi
      | some x => exact ⟨x, rfl⟩
    rw [hzv] at hzi
    simp only [Option.map_some, Option.some.injEq] at hzi
    have hzs : zv.cells.size = 1 := by rw [hzi]; simpa using hz
    have hsmall : ((n + bs.length : Nat) : Int) ≤ 9223372036854775807 := by simp only [maxLen] at h63; omega
    have hsz : (ByteArray.mk bs.toArray).size = bs.length := by show bs.toArray.size = _; simp
    obtain ⟨fp, ⟨f, g, rfl, ha, hg⟩, hn, hi, hf⟩ := st.2.2.perm ho.perm
    rcases ha with ⟨rfl, rfl, rfl, rfl⟩ | ⟨b, cap, rfl, rfl, hCl, hnc, hcm, cur, hb, hcs, htake⟩
    · omega
    · rw [Nat.mul_one] at hCl hcs htake
      by_cases hroom : n + bs.length ≤ cap
      · have hS : Sat c.w0 c.own (Eng.rowAt b cap E 1 n C :: H1) w := ⟨[b] ++ g, ⟨[b], g, rfl, ⟨rfl, by rw [Nat.mul_one]; exact hCl, hnc, hcm, cur, hb, by rw [Nat.mul_one]; exact hcs, by rw [Nat.mul_one]; exact htake⟩, hg⟩, hn, hi, hf⟩
        have hr := Lib.run_append_room_string (P := P) w T U ty E inf i.und us.und hinf hsi b n cap cur hb ⟨bs.toArray⟩ (by rw [hsz]; exact hroom) (by rw [hsz, hcs]; exact hroom)
        rw [hsz, strCells_bcs] at hr
        have hS' : Sat c.w0 c.own (Eng.row (.slice (some ⟨b, 0, none⟩) (n + bs.length) cap) E 1 (n + bs.length) (C ++ bcs bs) :: H1) (w.setRow b (cur.toList.take n ++ bcs bs ++ cur.toList.drop (n + bs.length)).toArray) := by
          refine hS.turn rfl rfl rfl (by simp [World.setRow]) fun fp hfp => ?_
          obtain ⟨rfl, _⟩ := hfp
          refine ⟨rowAt.row ⟨rfl, by rw [List.length_append, hCl, bcs_length, Nat.mul_one], hroom, hcm, _, setRow_heap w b cur _ E _ hb, ?_, ?_⟩, fun k hk => ?_⟩
          · simp only [List.size_toArray, List.length_append, List.length_take, List.length_drop, Array.length_toList, bcs_length]
            omega
          · rw [htake, Nat.mul_one]
            have : n + bs.length = (C ++ bcs bs).length := by rw [List.length_append, hCl, bcs_length]
            rw [this]
            exact List.take_left
          · exact setRow_other w b k _ (fun e => hk (by simp [e]))
        refine ⟨_, _, ?_, K (some ⟨b, 0, none⟩, cap) hroom _ _ ⟨st.1.put hd, st.2.1, hS'⟩⟩
        rw [hrun]
        simp only [builtin, Sem.run_bind]
        rw [show ([Value.slice (some ⟨b, 0, none⟩) n cap, str bs] : List Value).toArray = #[.slice (some ⟨b, 0, none⟩) n cap, .string ⟨bs.toArray⟩] from rfl, hr]
        rfl
      · have hcells : ∀ j u, C[j]? = some u → w.cell? ((⟨b, 0, none⟩ : Addr).add j) = some u := by
          intro j u hj
          rw [addr_add, Nat.zero_add]
          rw [← htake, List.getElem?_take] at hj
          have hb' : w.heap[b]? = some (.cells cur E (0, 0)) := hb
          split at hj
          · simp only [World.cell?, hb']
            simpa using hj
          · cases hj
        have hr := Lib.run_append_grow_string (P := P) w T U ty E inf zv i.und us.und hinf hzv ⟨b, 0, none⟩ n cap C (by rw [hCl, hsi, Nat.mul_one]) hcells ⟨bs.toArray⟩ (by rw [hsz]; omega) (by rw [hsz]; exact hsmall) (by rw [hsz]; exact growslice_fits (by omega) (by rw [hbi]; exact hby))
        rw [hsz, strCells_bcs] at hr
        have hge := grownCap_ge w (n + bs.length) cap E
        have hcm2 := grownCap_le_maxLen w (n + bs.length) cap E h63
        have hS : Sat c.w0 c.own H1 w.drew := Sat.drew ⟨g, hg, (List.nodup_append.1 hn).2.1, fun i hi' => hi i (List.mem_append_right _ hi'), hf⟩
        have hS' : Sat c.w0 c.own (Eng.row (.slice (some ⟨w.heap.size, 0, none⟩) (n + bs.length) (grownCap w (n + bs.length) cap E)) E 1 (n + bs.length) (C ++ bcs bs) :: H1) (w.drew.alloc (.cells (C.toArray ++ (bcs bs).toArray ++ Builtin.zeroCells zv.cells (grownCap w (n + bs.length) cap E - (n + bs.length))) E)) := by
          refine hS.new _ _ fun h' hh => ?_
          refine rowAt.row ⟨rfl, by rw [List.length_append, hCl, bcs_length, Nat.mul_one], hge, hcm2, _, hh, ?_, ?_⟩
          · simp only [Array.size_append, List.size_toArray, size_zeroCells, hzs, hCl, bcs_length]
            omega
          · simp only [Array.toList_append, List.append_assoc]
            rw [← List.append_assoc]
            have : (n + bs.length) * 1 = (C ++ bcs bs).length := by rw [List.length_append, hCl, bcs_length, Nat.mul_one]
            rw [this]
            exact List.take_left
        refine ⟨_, _, ?_, K (some ⟨w.heap.size, 0, none⟩, grownCap w (n + bs.length) cap E) hge _ _ ⟨st.1.put hd, st.2.1, hS'⟩⟩
        rw [hrun]
        simp only [builtin, Sem.run_bind]
        rw [show ([Value.slice (some ⟨b, 0, none⟩) n cap, str bs] : List Value).toArray = #[.slice (some ⟨b, 0, none⟩) n cap, .string ⟨bs.toArray⟩] from rfl, hr]
        rfl
end
end Go.Proofs.Ytfcaeifpclpnoaa.Eng
