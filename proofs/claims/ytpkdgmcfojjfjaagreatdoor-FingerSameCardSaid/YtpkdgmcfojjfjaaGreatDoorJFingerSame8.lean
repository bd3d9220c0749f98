/- FingerSame: the walk. -/
import Derived.Test.YtpkdgmcfojjfjaaGreatDoorJ7
namespace Go.Vi
open Go Go.Proofs

theorem fing_pos (r : Rul) : 1 ≤ fingF r := by unfold fingF; split <;> omega
theorem unl_pair {x y : Int} : unlF [x, y] = !(x == y) := by
  rw [Bool.eq_iff_iff, unlF_iff]
  simp
theorem cfg_val {v : Value} (h : v.oneCell' = true) : buildV Tryz.prog 49 [(0, v)] = some (.agg (cfgC v).toArray) := by
  simp [cfgC, stor_one h, cells_one h]
def fsame (r q : Rul) : Rul := { q with byL := r.byL, nodes := r.nodes, forM := r.forM, every := r.every }
theorem fsame_fing (r q : Rul) : fingF (fsame r q) = fingF r := rfl
set_option maxRecDepth 50000 in
set_option maxHeartbeats 2000000 in
theorem w_fsame {H : AHeap} {r q : Rul} {nv mv nv' mv' : Value} (hg : Pre Gs H) (hr : RulAt H r nv mv) (hq : RulAt H q nv' mv') : ACalls Tryz.prog 7 [.agg (r.cells nv mv).toArray, .agg (q.cells nv' mv').toArray] H (.bool true) H := by
  refine acallsG_flat (fun c => @drawKeep_sound _ c MixT) Tryz.func7 (by decide) rfl ?_
  generalize hk0 : (fun u H2 => u = Value.bool true ∧ ∃ X, H2 = H ++ X) = k
  have hk : ∀ M, Pre H M → k (.bool true) M := fun M p => by rw [← hk0]; exact ⟨rfl, p⟩
  rw [d7]
  have o1 := hr.o1
  have o2 := hr.o2
  have o3 := hq.o1
  have o4 := hq.o2
  have hnew1 : aNew H 44 (.agg (r.cells nv mv).toArray) = some (.pointer (some ⟨H.length, 0, some 8⟩), H ++ [.cells (r.cells nv mv) 44]) := by simp [aNew_agg, Rul.cells, o1, o2]
  have hnew2 : aNew (H ++ [.cells (r.cells nv mv) 44]) 44 (.agg (q.cells nv' mv').toArray) = some (.pointer (some ⟨H.length + 1, 0, some 8⟩), H ++ [.cells (r.cells nv mv) 44, .cells (q.cells nv' mv') 44]) := by simp [aNew_agg, Rul.cells, o3, o4]
  rw [hnew1]
  simp only [bndE_some]
  rw [hnew2]
  simp only [bndE_some]
  refine bndC_of (c_awake14 (hg.trans (.app H _))) ?_
  simp only [unV_not, bnd_some, Bool.not_true, kifB_false]
  refine bnd_of (rule_get (cs := r.cells nv mv) (by simp) rfl) ?_
  refine bnd_of (rule_get (cs := q.cells nv' mv') (by simp) rfl) ?_
  have G := rlit2 (H ++ [AObj.cells (r.cells nv mv) 44, .cells (q.cells nv' mv') 44]) o1 o2 o3 o4 (r := r) (r' := q)
  refine bndL_lit G ?_
  refine bnd_of (cfg_val rfl) ?_
  dsimp only
  have pH := fun X => Pre.app H X
  obtain ⟨b, hb, hcall⟩ := c_BigR (rat2 (K := H ++ [AObj.cells (r.cells nv mv) 44, .cells (q.cells nv' mv') 44] ++ [.cells (r.cells nv mv ++ q.cells nv' mv') 44]) (b := (H ++ [AObj.cells (r.cells nv mv) 44, .cells (q.cells nv' mv') 44]).length) (by simp) (hr.pre (by rw [List.append_assoc]; exact .app H _)) (hq.pre (by rw [List.append_assoc]; exact .app H _)))
  refine bndC_of hcall ?_
  cases b with
  | true =>
    simp
    exact hk _ (.app H _)
  | false =>
    obtain ⟨_, hsm⟩ := hb rfl
    have s1 := hsm r (by simp)
    have s2 := hsm q (by simp)
    simp only [kifB_false]
    obtain ⟨B, hB⟩ : ∃ B, B = H ++ [AObj.cells (r.cells nv mv) 44, .cells (q.cells nv' mv') 44] ++ [.cells (r.cells nv mv ++ q.cells nv' mv') 44] := ⟨_, rfl⟩
    have pB : Pre H B := by rw [hB, List.append_assoc]; exact .app _ _
    have c1 : hcells B H.length = some (r.cells nv mv) := by rw [hB]; simp
    have c2 : hcells B (H.length + 1) = some (q.cells nv' mv') := by rw [hB]; simp
    rw [← hB]
    clear hB hcall G hnew1 hnew2 hb
    refine bnd_of (rule_get c2 rfl) ?_
    simp only [tal44, bndE_some]
    rw [rule_new o3 o4]
    simp only [bndS_some]
    have l1 : ∀ X, hlen (B ++ X) H.length = some 8 := fun X => by rw [hcells_len (hcells_more c1)]; rfl
    have d1 : ∀ X, hcells (B ++ X) H.length = some [str r.name, str r.byL, nv, i64 r.forM, i64 r.every, i64 r.repeatM, mv, str r.route] := fun X => hcells_more c1
    simp [Rul.cells, l1, d1]
    refine bndK_of (v := undef) (H' := B ++ [AObj.cells [str q.name, str r.byL, nv', i64 q.forM, i64 q.every, i64 q.repeatM, mv', str q.route] 44]) ⟨rfl, by simp [Rul.cells]⟩ (by simp [l1, d1]) ?_
    simp
    refine bndK_of (v := undef) (H' := B ++ [AObj.cells [str q.name, str r.byL, nv, i64 q.forM, i64 q.every, i64 q.repeatM, mv', str q.route] 44]) ⟨rfl, by simp [stor_one o1, cells_one o1]⟩ (by simp [l1, d1]) ?_
    simp
    refine bndK_of (v := undef) (H' := B ++ [AObj.cells [str q.name, str r.byL, nv, i64 r.forM, i64 q.every, i64 q.repeatM, mv', str q.route] 44]) ⟨rfl, by simp⟩ (by simp [l1, d1]) ?_
    simp
    refine bndK_of (v := undef) (H' := B ++ [AObj.cells [str q.name, str r.byL, nv, i64 r.forM, i64 r.every, i64 q.repeatM, mv', str q.route] 44]) ⟨rfl, by simp⟩ (by simp) ?_
    dsimp only
    have d2 : B ++ [AObj.cells [str q.name, str r.byL, nv, i64 r.forM, i64 r.every, i64 q.repeatM, mv', str q.route] 44] = B ++ [.cells ((fsame r q).cells nv mv') 44] := rfl
    rw [d2]
    obtain ⟨C, hC⟩ : ∃ C, C = B ++ [AObj.cells ((fsame r q).cells nv mv') 44] := ⟨_, rfl⟩
    have pC : Pre H C := by rw [hC]; exact pB.more _
    have e1 : hcells C H.length = some (r.cells nv mv) := by rw [hC]; exact hcells_more c1
    have e2 : hcells C B.length = some ((fsame r q).cells nv mv') := by rw [hC]; simp
    rw [← hC]
    clear hC d2
    have hgC := hg.trans pC
    have rC := hr.pre pC
    have sC : RulAt C (fsame r q) nv mv' := ⟨rC.nodes, (hq.pre pC).mutes, rC.fit, hq.mlen⟩
    have b1 : r.byL.length ≤ 2 ^ 20 := by have := s1.1; omega
    have L1 := rule_get e1 rfl
    have L1X := fun X : AHeap => rule_get (hcells_more (X := X) e1) rfl
    have L2 := rule_get e2 rfl
    have L2X := fun X : AHeap => rule_get (hcells_more (X := X) e2) rfl
    have hf := c_finger hgC rC b1
    have hs := c_finger hgC sC b1
    rw [fsame_fing] at hs
    have hne : (fingF r != 0) = true := by have := fing_pos r; simp; omega
    refine bnd_of L1 ?_
    refine bndC_of hf ?_
    simp [hne, L2]
    refine bndG_t _ _ hs ?_
    simp [L1, L2]
    refine bndG_t _ _ (rlit2 C o1 o2 o1 o4 (r := r) (r' := fsame r q)) ?_
    have hu := c_unlike (hgC.trans (.app C _)) (rat2 (K := C ++ [.cells (r.cells nv mv ++ (fsame r q).cells nv mv') 44]) (b := C.length) (by simp) (rC.pre (.app C _)) (sC.pre (.app C _))) (by simp) (fun x hx => by simp at hx; rcases hx with rfl | rfl <;> exact b1)
    rw [show unlF ([r, fsame r q].map fingF) = false by simp [fsame_fing, unl_pair]] at hu
    refine bndG_t _ _ hu ?_
    simp [L1X]
    refine bndG_t _ _ (c_finger (hgC.trans (.app C _)) (rC.pre (.app C _)) b1) ?_
    simp
    exact hk _ (pC.more _)
end Go.Vi
