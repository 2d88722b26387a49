/- BytesKnown of casematelaw06 returns true. No condition. -/
import Derived.Test.YtfdndkempgnlcaaLb
namespace Go.Proofs.Ytfdndkempgnlcaa
open Go Go.Kx
open Go.ChangeShapes Go.WideShapes Go.ChangeAt Go.RowKit

theorem is_nil (w : World) : Calls Try.prog 42 #[.pointer none] w fun e w' => e = .returned (.bool false) ∧ Mem w [] w' [] := by
  have hM := Mem.start0 w
  refine f_enter 18 Try.func42 rfl rfl rfl ?_
  intro a hE
  replace hE : Env a 18 [(0, _)] := hE
  refine wp_seq_k (fun K1 hK1 => ?_)
  refine wp_plain [true] rfl rfl ?_
  refine s_assign hE rfl rfl ?_; clear hE a; intro a hE
  refine q_nil ?_
  refine hK1 _ _ ?_
  refine wp_seq_k (fun K2 hK2 => ?_)
  refine wp_plain [true, true, true, true, true, true, true, true, true, true, true, true, true, true, true, true] rfl rfl ?_
  refine s_move hE rfl rfl ?_; clear hE a; intro a hE
  refine s_bin hE rfl rfl (bins_nil_nil Try.underlying50).2 rfl ?_; clear hE a; intro a hE
  refine s_move hE rfl rfl ?_; clear hE a; intro a hE
  refine g_no (b := false) hE rfl rfl rfl ?_; clear hE a; intro a hE
  refine g_no (b := false) hE rfl rfl rfl ?_; clear hE a; intro a hE
  refine g_no (b := false) hE rfl rfl rfl ?_; clear hE a; intro a hE
  refine g_no (b := false) hE rfl rfl rfl ?_; clear hE a; intro a hE
  refine s_pickf hE rfl rfl rfl ?_; clear hE a; intro a hE
  refine s_move hE rfl rfl ?_; clear hE a; intro a hE
  refine g_no (b := false) hE rfl rfl rfl ?_; clear hE a; intro a hE
  refine g_no (b := false) hE rfl rfl rfl ?_; clear hE a; intro a hE
  refine g_no (b := false) hE rfl rfl rfl ?_; clear hE a; intro a hE
  refine g_no (b := false) hE rfl rfl rfl ?_; clear hE a; intro a hE
  refine g_no (b := false) hE rfl rfl rfl ?_; clear hE a; intro a hE
  refine s_pickf hE rfl rfl rfl ?_; clear hE a; intro a hE
  refine s_assign hE rfl rfl ?_; clear hE a; intro a hE
  refine q_nil ?_
  replace hE : Env a 18 [(2, _)] := hE.sel [2] rfl
  refine hK2 _ _ ?_
  refine wp_ret ?_
  refine f_ret1 hE rfl rfl ?_
  exact ⟨rfl, hM⟩
theorem has_nil (x : Int) (w : World) : Calls Try.prog 40 #[.pointer none, .int .i64 x] w fun e w' => e = .returned (.bool false) ∧ Mem w [] w' [] := by
  have hM := Mem.start0 w
  refine f_enter 20 Try.func40 rfl rfl rfl ?_
  intro a hE
  replace hE : Env a 20 [(0, _), (1, _)] := hE
  refine wp_seq_k (fun K1 hK1 => ?_)
  refine wp_plain [true] rfl rfl ?_
  refine s_assign hE rfl rfl ?_; clear hE a; intro a hE
  refine q_nil ?_
  refine hK1 _ _ ?_
  refine wp_seq_k (fun K2 hK2 => ?_)
  refine wp_plain [true, false, true, true, true, true, true, true, true, true, true, true, true, true, true, true] rfl rfl ?_
  refine s_move hE rfl rfl ?_; clear hE a; intro a hE
  refine s_call hE rfl Try.call42 (is_nil _) rfl ?_
  rintro e w1 ⟨rfl, hN⟩
  refine ⟨_, rfl, trivial, ?_⟩; clear hE a; intro a hE
  replace hM : Mem _ _ w1 [] := hM.call0 hN trivial; clear hN
  replace hE := hE.cast 6 rfl (show _ = Value.bool false from rfl)
  refine s_move hE rfl rfl ?_; clear hE a; intro a hE
  refine g_no (b := false) hE rfl rfl rfl ?_; clear hE a; intro a hE
  refine g_no (b := false) hE rfl rfl rfl ?_; clear hE a; intro a hE
  refine s_pickf hE rfl rfl rfl ?_; clear hE a; intro a hE
  refine s_move hE rfl rfl ?_; clear hE a; intro a hE
  refine g_no (b := false) hE rfl rfl rfl ?_; clear hE a; intro a hE
  refine g_no (b := false) hE rfl rfl rfl ?_; clear hE a; intro a hE
  refine g_no (b := false) hE rfl rfl rfl ?_; clear hE a; intro a hE
  refine g_no (b := false) hE rfl rfl rfl ?_; clear hE a; intro a hE
  refine g_no (b := false) hE rfl rfl rfl ?_; clear hE a; intro a hE
  refine g_no (b := false) hE rfl rfl rfl ?_; clear hE a; intro a hE
  refine g_no (b := false) hE rfl rfl rfl ?_; clear hE a; intro a hE
  refine s_pickf hE rfl rfl rfl ?_; clear hE a; intro a hE
  refine s_assign hE rfl rfl ?_; clear hE a; intro a hE
  refine q_nil ?_
  replace hE : Env a 20 [(4, _)] := hE.sel [4] rfl
  refine hK2 _ _ ?_
  refine wp_ret ?_
  refine f_ret1 hE rfl rfl ?_
  exact ⟨rfl, hM⟩
theorem tear_nil (w : World) : Calls Try.prog 41 #[.pointer none] w fun e w' => e = .returned (.tuple #[]) ∧ Mem w [] w' [] := by
  have hM := Mem.start0 w
  refine f_enter 7 Try.func41 rfl rfl rfl ?_
  intro a hE
  replace hE : Env a 7 [(0, _)] := hE
  refine wp_seq_k (fun K1 hK1 => ?_)
  refine wp_plain [true, true] rfl rfl ?_
  refine s_move hE rfl rfl ?_; clear hE a; intro a hE
  refine s_bin hE rfl rfl (bins_nil_nil Try.underlying50).2 rfl ?_; clear hE a; intro a hE
  refine q_nil ?_
  replace hE : Env a 7 [(0, _), (3, _)] := hE.sel [0, 3] rfl
  refine hK1 _ _ ?_
  refine wp_cond_false (hE.eval rfl) ?_
  refine wp_skip ?_
  refine (f_ret0 hE rfl ?_).2
  exact ⟨rfl, hM⟩
theorem num_nil (w : World) : Calls Try.prog 27 #[.pointer none, .int .i64 1] w fun e w' => e = .returned (.int .u64 0) ∧ Mem w [] w' [] := by
  have hM := Mem.start0 w
  refine f_enter 44 Try.func27 rfl rfl rfl ?_
  intro a hE
  replace hE : Env a 44 [(0, _), (1, _)] := hE
  refine wp_seq_k (fun K1 hK1 => ?_)
  refine wp_plain [true] rfl rfl ?_
  refine s_assign hE rfl rfl ?_; clear hE a; intro a hE
  refine q_nil ?_
  refine hK1 _ _ ?_
  refine wp_seq_k (fun K2 hK2 => ?_)
  refine wp_seq_k (fun K3 hK3 => ?_)
  refine wp_plain [true, false, true, true, true, true, false, true, true] rfl rfl ?_
  refine s_move hE rfl rfl ?_; clear hE a; intro a hE
  refine s_call hE rfl Try.call37 (width_c _ _) rfl ?_
  rintro e w1 ⟨rfl, hN⟩
  refine ⟨_, rfl, trivial, ?_⟩; clear hE a; intro a hE
  replace hM : Mem _ _ w1 [] := hM.call0 hN trivial; clear hN
  replace hE := hE.cast 8 rfl (show _ = Value.bool true from rfl)
  refine s_not hE rfl rfl ?_; clear hE a; intro a hE
  replace hE := hE.cast 9 rfl (show _ = Value.bool false from rfl)
  refine s_move hE rfl rfl ?_; clear hE a; intro a hE
  refine g_yes hE rfl rfl ?_
  refine s_move hE rfl rfl ?_; clear hE a; intro a hE
  refine g_yes hE rfl rfl ?_
  refine s_move hE rfl rfl ?_; clear hE a; intro a hE
  refine g_yes hE rfl rfl ?_
  refine s_call hE rfl Try.call40 (has_nil _ _) rfl ?_
  rintro e w2 ⟨rfl, hN⟩
  refine ⟨_, rfl, trivial, ?_⟩; clear hE a; intro a hE
  replace hM : Mem _ _ w2 [] := hM.call0 hN trivial; clear hN
  replace hE := hE.cast 13 rfl (show _ = Value.bool false from rfl)
  refine g_yes hE rfl rfl ?_
  refine s_not hE rfl rfl ?_; clear hE a; intro a hE
  replace hE := hE.cast 14 rfl (show _ = Value.bool true from rfl)
  refine s_pickf hE rfl rfl rfl ?_; clear hE a; intro a hE
  refine q_nil ?_
  replace hE : Env a 44 [(0, _), (1, _), (4, _), (15, _)] := hE.sel [0, 1, 4, 15] rfl
  refine hK3 _ _ ?_
  refine wp_cond_true (hE.eval rfl) ?_
  refine wp_seq_k (fun K4 hK4 => ?_)
  refine wp_plain [true, false] rfl rfl ?_
  refine s_move hE rfl rfl ?_; clear hE a; intro a hE
  refine s_call hE rfl Try.call41 (tear_nil _) rfl ?_
  rintro e w3 ⟨rfl, hN⟩
  refine ⟨_, rfl, trivial, ?_⟩; clear hE a; intro a hE
  replace hM : Mem _ _ w3 [] := hM.call0 hN trivial; clear hN
  refine q_nil ?_
  replace hE : Env a 44 [(0, _), (1, _), (4, _), (15, _)] := hE.sel [0, 1, 4, 15] rfl
  refine hK4 _ _ ?_
  refine wp_seq_k (fun K5 hK5 => ?_)
  refine wp_plain [true] rfl rfl ?_
  refine s_assign hE rfl rfl ?_; clear hE a; intro a hE
  refine q_nil ?_
  refine hK5 _ _ ?_
  refine wp_ret ?_
  refine q_then_r ?_
  refine f_ret1 hE rfl rfl ?_
  exact ⟨rfl, hM⟩
theorem torn_nil (w : World) : Calls Try.prog 32 #[.pointer none] w fun e w' => e = .returned (.bool true) ∧ Mem w [] w' [] := by
  have hM := Mem.start0 w
  refine f_enter 6 Try.func32 rfl rfl rfl ?_
  intro a hE
  replace hE : Env a 6 [(0, _)] := hE
  refine wp_seq_k (fun K1 hK1 => ?_)
  refine wp_plain [true] rfl rfl ?_
  refine s_assign hE rfl rfl ?_; clear hE a; intro a hE
  refine q_nil ?_
  refine hK1 _ _ ?_
  refine wp_seq_k (fun K2 hK2 => ?_)
  refine wp_plain [true, false, true, true] rfl rfl ?_
  refine s_move hE rfl rfl ?_; clear hE a; intro a hE
  refine s_call hE rfl Try.call42 (is_nil _) rfl ?_
  rintro e w1 ⟨rfl, hN⟩
  refine ⟨_, rfl, trivial, ?_⟩; clear hE a; intro a hE
  replace hM : Mem _ _ w1 [] := hM.call0 hN trivial; clear hN
  replace hE := hE.cast 4 rfl (show _ = Value.bool false from rfl)
  refine s_not hE rfl rfl ?_; clear hE a; intro a hE
  replace hE := hE.cast 5 rfl (show _ = Value.bool true from rfl)
  refine s_assign hE rfl rfl ?_; clear hE a; intro a hE
  refine q_nil ?_
  replace hE : Env a 6 [(2, _)] := hE.sel [2] rfl
  refine hK2 _ _ ?_
  refine wp_ret ?_
  refine f_ret1 hE rfl rfl ?_
  exact ⟨rfl, hM⟩
theorem end_nil (w : World) : Calls Try.prog 26 #[.pointer none] w fun e w' => e = .returned (.bool false) ∧ Mem w [] w' [] := by
  have hM := Mem.start0 w
  refine f_enter 13 Try.func26 rfl rfl rfl ?_
  intro a hE
  replace hE : Env a 13 [(0, _)] := hE
  refine wp_seq_k (fun K1 hK1 => ?_)
  refine wp_plain [true] rfl rfl ?_
  refine s_assign hE rfl rfl ?_; clear hE a; intro a hE
  refine q_nil ?_
  refine hK1 _ _ ?_
  refine wp_seq_k (fun K2 hK2 => ?_)
  refine wp_plain [true, false, true, true, true, true, true, true, true, true, true] rfl rfl ?_
  refine s_move hE rfl rfl ?_; clear hE a; intro a hE
  refine s_call hE rfl Try.call42 (is_nil _) rfl ?_
  rintro e w1 ⟨rfl, hN⟩
  refine ⟨_, rfl, trivial, ?_⟩; clear hE a; intro a hE
  replace hM : Mem _ _ w1 [] := hM.call0 hN trivial; clear hN
  replace hE := hE.cast 4 rfl (show _ = Value.bool false from rfl)
  refine s_move hE rfl rfl ?_; clear hE a; intro a hE
  refine g_no (b := false) hE rfl rfl rfl ?_; clear hE a; intro a hE
  refine g_no (b := false) hE rfl rfl rfl ?_; clear hE a; intro a hE
  refine g_no (b := false) hE rfl rfl rfl ?_; clear hE a; intro a hE
  refine g_no (b := false) hE rfl rfl rfl ?_; clear hE a; intro a hE
  refine g_no (b := false) hE rfl rfl rfl ?_; clear hE a; intro a hE
  refine g_no (b := false) hE rfl rfl rfl ?_; clear hE a; intro a hE
  refine s_pickf hE rfl rfl rfl ?_; clear hE a; intro a hE
  refine s_assign hE rfl rfl ?_; clear hE a; intro a hE
  refine q_nil ?_
  replace hE : Env a 13 [(2, _)] := hE.sel [2] rfl
  refine hK2 _ _ ?_
  refine wp_ret ?_
  refine f_ret1 hE rfl rfl ?_
  exact ⟨rfl, hM⟩
theorem text_empty (b : Nat) (t : Bool) (x : Int) (w : World) (hB : (blk b [[.slice none 0 0], [.bool false], [.bool t]] [1, 1, 1] 66).holds w) : Calls Try.prog 30 #[.pointer (some ⟨b, 0, none⟩), .int .i64 x] w fun e w' => e = .returned (.string .empty) ∧ Mem w [b] w' [blk b [[.slice none 0 0], [.bool false], [.bool true]] [1, 1, 1] 66] := by
  have hM := Mem.startB hB
  refine f_enter 59 Try.func30 rfl rfl rfl ?_
  intro a hE
  replace hE : Env a 59 [(0, _), (1, _)] := hE
  refine wp_seq_k (fun K1 hK1 => ?_)
  refine wp_plain [true] rfl rfl ?_
  refine s_assign hE rfl rfl ?_; clear hE a; intro a hE
  refine q_nil ?_
  refine hK1 _ _ ?_
  refine wp_seq_k (fun K2 hK2 => ?_)
  refine wp_seq_k (fun K3 hK3 => ?_)
  refine wp_plain [true, false, true] rfl rfl ?_
  refine s_move hE rfl rfl ?_; clear hE a; intro a hE
  refine s_call hE rfl Try.call40 (has_c b _ false t [] 0 _ _ (hM.get 0 rfl) (rd_nil _)) rfl ?_
  rintro e w1 ⟨rfl, hN⟩
  refine ⟨_, rfl, trivial, ?_⟩; clear hE a; intro a hE
  replace hM : Mem _ _ w1 [_] := hM.call0 hN trivial; clear hN
  replace hE := hE.cast 8 rfl (show _ = Value.bool false from rfl)
  refine s_not hE rfl rfl ?_; clear hE a; intro a hE
  replace hE := hE.cast 9 rfl (show _ = Value.bool true from rfl)
  refine q_nil ?_
  replace hE : Env a 59 [(0, _), (1, _), (4, _), (9, _)] := hE.sel [0, 1, 4, 9] rfl
  refine hK3 _ _ ?_
  refine wp_cond_true (hE.eval rfl) ?_
  refine wp_seq_k (fun K4 hK4 => ?_)
  refine wp_plain [true, false] rfl rfl ?_
  refine s_move hE rfl rfl ?_; clear hE a; intro a hE
  refine s_call hE rfl Try.call41 (tear_c b _ false t _ (hM.get 0 rfl)) rfl ?_
  rintro e w2 ⟨rfl, hN⟩
  refine ⟨_, rfl, trivial, ?_⟩; clear hE a; intro a hE
  replace hM : Mem _ _ w2 [_] := hM.call1' hN ⟨rfl, trivial⟩; clear hN
  refine q_nil ?_
  replace hE : Env a 59 [(0, _), (1, _), (4, _), (9, _)] := hE.sel [0, 1, 4, 9] rfl
  refine hK4 _ _ ?_
  refine wp_seq_k (fun K5 hK5 => ?_)
  refine wp_plain [true] rfl rfl ?_
  refine s_assign hE rfl rfl ?_; clear hE a; intro a hE
  refine q_nil ?_
  refine hK5 _ _ ?_
  refine wp_ret ?_
  refine q_then_r ?_
  refine f_ret1 hE rfl rfl ?_
  exact ⟨rfl, hM⟩
theorem bytes_empty (b : Nat) (t : Bool) (x : Int) (w : World) (hB : (blk b [[.slice none 0 0], [.bool false], [.bool t]] [1, 1, 1] 66).holds w) : Calls Try.prog 25 #[.pointer (some ⟨b, 0, none⟩), .int .i64 x] w fun e w' => e = .returned (.slice none 0 0) ∧ Mem w [b] w' [blk b [[.slice none 0 0], [.bool false], [.bool true]] [1, 1, 1] 66] := by
  have hM := Mem.startB hB
  refine f_enter 29 Try.func25 rfl rfl rfl ?_
  intro a hE
  replace hE : Env a 29 [(0, _), (1, _)] := hE
  refine wp_seq_k (fun K1 hK1 => ?_)
  refine wp_plain [true] rfl rfl ?_
  refine s_assign hE rfl rfl ?_; clear hE a; intro a hE
  refine q_nil ?_
  refine hK1 _ _ ?_
  refine wp_seq_k (fun K2 hK2 => ?_)
  refine wp_seq_k (fun K3 hK3 => ?_)
  refine wp_plain [true, true, false, true] rfl rfl ?_
  refine s_move hE rfl rfl ?_; clear hE a; intro a hE
  refine s_move hE rfl rfl ?_; clear hE a; intro a hE
  refine s_call hE rfl Try.call40 (has_c b _ false t [] 0 _ _ (hM.get 0 rfl) (rd_nil _)) rfl ?_
  rintro e w1 ⟨rfl, hN⟩
  refine ⟨_, rfl, trivial, ?_⟩; clear hE a; intro a hE
  replace hM : Mem _ _ w1 [_] := hM.call0 hN trivial; clear hN
  replace hE := hE.cast 8 rfl (show _ = Value.bool false from rfl)
  refine s_not hE rfl rfl ?_; clear hE a; intro a hE
  replace hE := hE.cast 9 rfl (show _ = Value.bool true from rfl)
  refine q_nil ?_
  replace hE : Env a 29 [(0, _), (1, _), (4, _), (9, _)] := hE.sel [0, 1, 4, 9] rfl
  refine hK3 _ _ ?_
  refine wp_cond_true (hE.eval rfl) ?_
  refine wp_seq_k (fun K4 hK4 => ?_)
  refine wp_plain [true, false] rfl rfl ?_
  refine s_move hE rfl rfl ?_; clear hE a; intro a hE
  refine s_call hE rfl Try.call41 (tear_c b _ false t _ (hM.get 0 rfl)) rfl ?_
  rintro e w2 ⟨rfl, hN⟩
  refine ⟨_, rfl, trivial, ?_⟩; clear hE a; intro a hE
  replace hM : Mem _ _ w2 [_] := hM.call1' hN ⟨rfl, trivial⟩; clear hN
  refine q_nil ?_
  replace hE : Env a 29 [(0, _), (1, _), (4, _), (9, _)] := hE.sel [0, 1, 4, 9] rfl
  refine hK4 _ _ ?_
  refine wp_seq_k (fun K5 hK5 => ?_)
  refine wp_plain [true] rfl rfl ?_
  refine s_assign hE rfl rfl ?_; clear hE a; intro a hE
  refine q_nil ?_
  refine hK5 _ _ ?_
  refine wp_ret ?_
  refine q_then_r ?_
  refine f_ret1 hE rfl rfl ?_
  exact ⟨rfl, hM⟩
theorem torn_empty (b : Nat) (t : Bool) (w : World) (hB : (blk b [[.slice none 0 0], [.bool false], [.bool t]] [1, 1, 1] 66).holds w) : Calls Try.prog 32 #[.pointer (some ⟨b, 0, none⟩)] w fun e w' => e = .returned (.bool true) ∧ Mem w [] w' [] := by
  have hM := Mem.startR1 (e := blkR b [[.slice none 0 0], [.bool false], [.bool t]] [1, 1, 1] 66) hB rfl
  refine f_enter 6 Try.func32 rfl rfl rfl ?_
  intro a hE
  replace hE : Env a 6 [(0, _)] := hE
  refine wp_seq_k (fun K1 hK1 => ?_)
  refine wp_plain [true] rfl rfl ?_
  refine s_assign hE rfl rfl ?_; clear hE a; intro a hE
  refine q_nil ?_
  refine hK1 _ _ ?_
  refine wp_seq_k (fun K2 hK2 => ?_)
  refine wp_plain [true, false, true, true] rfl rfl ?_
  refine s_move hE rfl rfl ?_; clear hE a; intro a hE
  refine s_call hE rfl Try.call42 (is_c b _ false t _ (blkR_blk (hM.get 0 rfl))) rfl ?_
  rintro e w1 ⟨rfl, hN⟩
  refine ⟨_, rfl, trivial, ?_⟩; clear hE a; intro a hE
  replace hM : Mem _ _ w1 [_] := hM.call0 hN trivial; clear hN
  replace hE := hE.cast 4 rfl (show _ = Value.bool false from rfl)
  refine s_not hE rfl rfl ?_; clear hE a; intro a hE
  replace hE := hE.cast 5 rfl (show _ = Value.bool true from rfl)
  refine s_assign hE rfl rfl ?_; clear hE a; intro a hE
  refine q_nil ?_
  replace hE : Env a 6 [(2, _)] := hE.sel [2] rfl
  refine hK2 _ _ ?_
  refine wp_ret ?_
  refine f_ret1 hE rfl rfl ?_
  exact ⟨rfl, hM.nil⟩
theorem rdv_rep (w : World) : ∀ k : Nat, (rdv [] (List.replicate k (.slice none 0 0)) (List.replicate k [])).holds w
  | 0 => rdv_nil w
  | k + 1 => rdv_cons (rd_nil w) (rdv_rep w k)
theorem bytesKnown_c (w : World) : Calls Try.prog 9 #[] w fun e w' => e = .returned (.bool true) ∧ Mem w [] w' [] := by
  have hM := Mem.start0 w
  refine f_enter 235 Try.func9 rfl rfl rfl ?_
  intro a hE
  replace hE : Env a 235 [] := hE
  refine wp_seq_k (fun K1 hK1 => ?_)
  refine wp_plain [true] rfl rfl ?_
  refine s_assign hE rfl rfl ?_; clear hE a; intro a hE
  refine q_nil ?_
  refine hK1 _ _ ?_
  refine wp_seq_k (fun K2 hK2 => ?_)
  refine wp_plain [false, true, true, true, true, true] rfl rfl ?_
  refine s_call hE rfl Try.call20 ((by have h := num_c [] _ 0 2 258 _ (rd_nil w) (by decide); rw [show pNum [] 2 258 = ([1, 2], 0) from by decide +kernel] at h; exact h)) rfl ?_
  rintro e w1 ⟨v37, rfl, hN⟩
  refine ⟨_, rfl, trivial, ?_⟩; clear hE a; intro a hE
  replace hM : Mem _ _ w1 [_] := hM.call0 hN ⟨rfl, trivial⟩; clear hN
  refine s_move hE rfl rfl ?_; clear hE a; intro a hE
  refine s_extract hE rfl rfl rfl ?_; clear hE a; intro a hE
  refine s_extract hE rfl rfl rfl ?_; clear hE a; intro a hE
  refine s_assign hE rfl rfl ?_; clear hE a; intro a hE
  refine s_assign hE rfl rfl ?_; clear hE a; intro a hE
  refine q_nil ?_
  replace hE : Env a 235 [(0, _), (1, _), (2, _)] := hE.sel [0, 1, 2] rfl
  refine hK2 _ _ ?_
  refine wp_seq_k (fun K3 hK3 => ?_)
  refine wp_plain [false, true, true, true, true, true] rfl rfl ?_
  refine s_call hE rfl Try.call20 ((by have h := num_c [] _ 0 1 256 _ (rd_nil w1) (by decide); rw [show pNum [] 1 256 = ([], 2) from by decide +kernel] at h; exact h)) rfl ?_
  rintro e w2 ⟨v41, rfl, hN⟩
  refine ⟨_, rfl, trivial, ?_⟩; clear hE a; intro a hE
  replace hM : Mem _ _ w2 [_, _] := hM.call0 hN ⟨rfl, trivial⟩; clear hN
  refine s_move hE rfl rfl ?_; clear hE a; intro a hE
  refine s_extract hE rfl rfl rfl ?_; clear hE a; intro a hE
  refine s_extract hE rfl rfl rfl ?_; clear hE a; intro a hE
  refine s_assign hE rfl rfl ?_; clear hE a; intro a hE
  refine s_assign hE rfl rfl ?_; clear hE a; intro a hE
  refine q_nil ?_
  replace hE : Env a 235 [(0, _), (1, _), (2, _), (4, _)] := hE.sel [0, 1, 2, 4] rfl
  refine hK3 _ _ ?_
  refine wp_seq_k (fun K4 hK4 => ?_)
  refine wp_plain [false, true, true, true, true, true] rfl rfl ?_
  refine s_call hE rfl Try.call20 ((by have h := num_c [] _ 0 3 1 _ (rd_nil w2) (by decide); rw [show pNum [] 3 1 = ([], 2) from by decide +kernel] at h; exact h)) rfl ?_
  rintro e w3 ⟨v45, rfl, hN⟩
  refine ⟨_, rfl, trivial, ?_⟩; clear hE a; intro a hE
  replace hM : Mem _ _ w3 [_, _, _] := hM.call0 hN ⟨rfl, trivial⟩; clear hN
  refine s_move hE rfl rfl ?_; clear hE a; intro a hE
  refine s_extract hE rfl rfl rfl ?_; clear hE a; intro a hE
  refine s_extract hE rfl rfl rfl ?_; clear hE a; intro a hE
  refine s_assign hE rfl rfl ?_; clear hE a; intro a hE
  refine s_assign hE rfl rfl ?_; clear hE a; intro a hE
  refine q_nil ?_
  replace hE : Env a 235 [(0, _), (1, _), (2, _), (4, _), (6, _)] := hE.sel [0, 1, 2, 4, 6] rfl
  refine hK4 _ _ ?_
  refine wp_seq_k (fun K5 hK5 => ?_)
  refine wp_plain [false, false, true, true, true, true, true] rfl rfl ?_
  refine s_buildSlice (xs := [.const (.int .u8 7)]) (bv [7]) hE hM sl23 rfl rfl rfl (by intro v hv; simp at hv; subst hv; rfl) rfl rfl rfl rfl ?_; clear hE a; intro a v49 w4 hE hM'
  clear hM; have hM := hM'; clear hM'
  obtain ⟨cst, hst⟩ := own_rd (hM.get 0 rfl)
  refine s_call hE rfl Try.call22 ((by have h := text_c [7] _ _ ⟨#[97, 98]⟩ _ hst (by decide); rw [show pText [7] [97, 98] = ([7, 0, 2, 97, 98], 0) from by decide +kernel] at h; exact h)) rfl ?_
  rintro e w5 ⟨v50, rfl, hN⟩
  refine ⟨_, rfl, trivial, ?_⟩; clear hE a; intro a hE
  replace hM : Mem _ _ w5 [_, _, _, _, _] := hM.call0 hN ⟨rfl, trivial⟩; clear hN
  refine s_move hE rfl rfl ?_; clear hE a; intro a hE
  refine s_extract hE rfl rfl rfl ?_; clear hE a; intro a hE
  refine s_extract hE rfl rfl rfl ?_; clear hE a; intro a hE
  refine s_assign hE rfl rfl ?_; clear hE a; intro a hE
  refine s_assign hE rfl rfl ?_; clear hE a; intro a hE
  refine q_nil ?_
  replace hE : Env a 235 [(0, _), (1, _), (2, _), (4, _), (6, _), (7, _), (8, _)] := hE.sel [0, 1, 2, 4, 6, 7, 8] rfl
  refine hK5 _ _ ?_
  refine wp_seq_k (fun K6 hK6 => ?_)
  refine wp_plain [false, true, true, true, true, true] rfl rfl ?_
  refine s_call hE rfl Try.call11 ((by have h := row_c 76 [] [] _ [] 0 _ (rd_nil w5) (rdv_nil _) (by decide); rw [show pRow 76 [] = ([76, 0], 0) from by decide +kernel] at h; exact h)) rfl ?_
  rintro e w6 ⟨v54, rfl, hN⟩
  refine ⟨_, rfl, trivial, ?_⟩; clear hE a; intro a hE
  replace hM : Mem _ _ w6 [_, _, _, _, _, _] := hM.call0 hN ⟨rfl, trivial⟩; clear hN
  refine s_move hE rfl rfl ?_; clear hE a; intro a hE
  refine s_extract hE rfl rfl rfl ?_; clear hE a; intro a hE
  refine s_extract hE rfl rfl rfl ?_; clear hE a; intro a hE
  refine s_assign hE rfl rfl ?_; clear hE a; intro a hE
  refine s_assign hE rfl rfl ?_; clear hE a; intro a hE
  refine q_nil ?_
  replace hE : Env a 235 [(0, _), (1, _), (2, _), (4, _), (6, _), (7, _), (8, _), (9, _), (10, _)] := hE.sel [0, 1, 2, 4, 6, 7, 8, 9, 10] rfl
  refine hK6 _ _ ?_
  refine wp_seq_k (fun K7 hK7 => ?_)
  refine wp_plain [false, false, true, true, true, true, true, true, true] rfl rfl ?_
  refine s_buildSlice (xs := [.const (.int .u8 76), .const (.int .u8 0)]) (bv [76, 0]) hE hM sl23 rfl rfl rfl (by intro v hv; simp at hv; rcases hv with rfl | rfl <;> rfl) rfl rfl rfl rfl ?_; clear hE a; intro a v58 w7 hE hM'
  clear hM; have hM := hM'; clear hM'
  obtain ⟨csp59, hsp59⟩ := own_rd (hM.get 0 rfl)
  refine s_call hE rfl Try.call13 ((by have h := parts_c [76, 0] _ _ _ hsp59 (by decide); rw [show pParts [76, 0] = (76, [], 0) from by decide +kernel] at h; exact h)) rfl ?_
  rintro e w8 ⟨pv59, vs59, bb59, rfl, hbb, hN⟩
  refine ⟨_, rfl, trivial, ?_⟩; clear hE a; intro a hE
  replace hM : Mem _ _ w8 [_, _, _, _, _, _, _, _, _] := hM.callN hN (by intro e he x hx; rcases List.mem_cons.1 he with rfl | he; exact absurd hx List.not_mem_nil; rw [List.mem_singleton.1 he] at hx; exact hbb x hx); clear hN
  clear hbb
  refine s_move hE rfl rfl ?_; clear hE a; intro a hE
  refine s_extract hE rfl rfl rfl ?_; clear hE a; intro a hE
  refine s_extract hE rfl rfl rfl ?_; clear hE a; intro a hE
  refine s_extract hE rfl rfl rfl ?_; clear hE a; intro a hE
  refine s_assign hE rfl rfl ?_; clear hE a; intro a hE
  refine s_assign hE rfl rfl ?_; clear hE a; intro a hE
  refine s_assign hE rfl rfl ?_; clear hE a; intro a hE
  refine q_nil ?_
  replace hE : Env a 235 [(0, _), (1, _), (2, _), (4, _), (6, _), (7, _), (8, _), (9, _), (10, _), (11, _), (12, _), (13, _)] := hE.sel [0, 1, 2, 4, 6, 7, 8, 9, 10, 11, 12, 13] rfl
  refine hK7 _ _ ?_
  refine wp_seq_k (fun K8 hK8 => ?_)
  refine wp_plain [false, false, true, true, true, true, true, true, true] rfl rfl ?_
  refine s_buildSlice (xs := [.const (.int .u8 76)]) (bv [76]) hE hM sl23 rfl rfl rfl (by intro v hv; simp at hv; subst hv; rfl) rfl rfl rfl rfl ?_; clear hE a; intro a v64 w9 hE hM'
  clear hM; have hM := hM'; clear hM'
  obtain ⟨csp65, hsp65⟩ := own_rd (hM.get 0 rfl)
  refine s_call hE rfl Try.call13 ((by have h := parts_c [76] _ _ _ hsp65 (by decide); rw [show pParts [76] = (0, [], 4) from by decide +kernel] at h; exact h)) rfl ?_
  rintro e w10 ⟨pv65, vs65, bb65, rfl, hbb, hN⟩
  refine ⟨_, rfl, trivial, ?_⟩; clear hE a; intro a hE
  replace hM : Mem _ _ w10 [_, _, _, _, _, _, _, _, _, _, _, _] := hM.callN hN (by intro e he x hx; rcases List.mem_cons.1 he with rfl | he; exact absurd hx List.not_mem_nil; rw [List.mem_singleton.1 he] at hx; exact hbb x hx); clear hN
  clear hbb
  refine s_move hE rfl rfl ?_; clear hE a; intro a hE
  refine s_extract hE rfl rfl rfl ?_; clear hE a; intro a hE
  refine s_extract hE rfl rfl rfl ?_; clear hE a; intro a hE
  refine s_extract hE rfl rfl rfl ?_; clear hE a; intro a hE
  refine s_assign hE rfl rfl ?_; clear hE a; intro a hE
  refine s_assign hE rfl rfl ?_; clear hE a; intro a hE
  refine s_assign hE rfl rfl ?_; clear hE a; intro a hE
  refine q_nil ?_
  replace hE : Env a 235 [(0, _), (1, _), (2, _), (4, _), (6, _), (7, _), (8, _), (9, _), (10, _), (11, _), (12, _), (13, _), (16, _)] := hE.sel [0, 1, 2, 4, 6, 7, 8, 9, 10, 11, 12, 13, 16] rfl
  refine hK8 _ _ ?_
  refine wp_seq_k (fun K9 hK9 => ?_)
  refine wp_plain [false, false, true, true, true, true, true, true, true] rfl rfl ?_
  refine s_buildSlice (xs := [.const (.int .u8 76), .const (.int .u8 0), .const (.int .u8 0)]) (bv [76, 0, 0]) hE hM sl23 rfl rfl rfl (by intro v hv; simp at hv; rcases hv with rfl | rfl | rfl <;> rfl) rfl rfl rfl rfl ?_; clear hE a; intro a v70 w11 hE hM'
  clear hM; have hM := hM'; clear hM'
  obtain ⟨csp71, hsp71⟩ := own_rd (hM.get 0 rfl)
  refine s_call hE rfl Try.call13 ((by have h := parts_c [76, 0, 0] _ _ _ hsp71 (by decide); rw [show pParts [76, 0, 0] = (0, [], 4) from by decide +kernel] at h; exact h)) rfl ?_
  rintro e w12 ⟨pv71, vs71, bb71, rfl, hbb, hN⟩
  refine ⟨_, rfl, trivial, ?_⟩; clear hE a; intro a hE
  replace hM : Mem _ _ w12 [_, _, _, _, _, _, _, _, _, _, _, _, _, _, _] := hM.callN hN (by intro e he x hx; rcases List.mem_cons.1 he with rfl | he; exact absurd hx List.not_mem_nil; rw [List.mem_singleton.1 he] at hx; exact hbb x hx); clear hN
  clear hbb
  refine s_move hE rfl rfl ?_; clear hE a; intro a hE
  refine s_extract hE rfl rfl rfl ?_; clear hE a; intro a hE
  refine s_extract hE rfl rfl rfl ?_; clear hE a; intro a hE
  refine s_extract hE rfl rfl rfl ?_; clear hE a; intro a hE
  refine s_assign hE rfl rfl ?_; clear hE a; intro a hE
  refine s_assign hE rfl rfl ?_; clear hE a; intro a hE
  refine s_assign hE rfl rfl ?_; clear hE a; intro a hE
  refine q_nil ?_
  replace hE : Env a 235 [(0, _), (1, _), (2, _), (4, _), (6, _), (7, _), (8, _), (9, _), (10, _), (11, _), (12, _), (13, _), (16, _), (19, _)] := hE.sel [0, 1, 2, 4, 6, 7, 8, 9, 10, 11, 12, 13, 16, 19] rfl
  refine hK9 _ _ ?_
  refine wp_seq_k (fun K10 hK10 => ?_)
  refine wp_plain [false, false, true, true, true, true, true, true, true] rfl rfl ?_
  refine s_buildSlice (xs := [.const (.int .u8 76), .const (.int .u8 1), .const (.int .u8 0), .const (.int .u8 0), .const (.int .u8 0), .const (.int .u8 2), .const (.int .u8 97)]) (bv [76, 1, 0, 0, 0, 2, 97]) hE hM sl23 rfl rfl rfl (by intro v hv; simp at hv; rcases hv with rfl | rfl | rfl | rfl | rfl | rfl | rfl <;> rfl) rfl rfl rfl rfl ?_; clear hE a; intro a v76 w13 hE hM'
  clear hM; have hM := hM'; clear hM'
  obtain ⟨csp77, hsp77⟩ := own_rd (hM.get 0 rfl)
  refine s_call hE rfl Try.call13 ((by have h := parts_c [76, 1, 0, 0, 0, 2, 97] _ _ _ hsp77 (by decide); rw [show pParts [76, 1, 0, 0, 0, 2, 97] = (0, [], 4) from by decide +kernel] at h; exact h)) rfl ?_
  rintro e w14 ⟨pv77, vs77, bb77, rfl, hbb, hN⟩
  refine ⟨_, rfl, trivial, ?_⟩; clear hE a; intro a hE
  replace hM : Mem _ _ w14 [_, _, _, _, _, _, _, _, _, _, _, _, _, _, _, _, _, _] := hM.callN hN (by intro e he x hx; rcases List.mem_cons.1 he with rfl | he; exact absurd hx List.not_mem_nil; rw [List.mem_singleton.1 he] at hx; exact hbb x hx); clear hN
  clear hbb
  refine s_move hE rfl rfl ?_; clear hE a; intro a hE
  refine s_extract hE rfl rfl rfl ?_; clear hE a; intro a hE
  refine s_extract hE rfl rfl rfl ?_; clear hE a; intro a hE
  refine s_extract hE rfl rfl rfl ?_; clear hE a; intro a hE
  refine s_assign hE rfl rfl ?_; clear hE a; intro a hE
  refine s_assign hE rfl rfl ?_; clear hE a; intro a hE
  refine s_assign hE rfl rfl ?_; clear hE a; intro a hE
  refine q_nil ?_
  replace hE : Env a 235 [(0, _), (1, _), (2, _), (4, _), (6, _), (7, _), (8, _), (9, _), (10, _), (11, _), (12, _), (13, _), (16, _), (19, _), (22, _)] := hE.sel [0, 1, 2, 4, 6, 7, 8, 9, 10, 11, 12, 13, 16, 19, 22] rfl
  refine hK10 _ _ ?_
  refine wp_seq_k (fun K11 hK11 => ?_)
  refine wp_seq_k (fun K12 hK12 => ?_)
  refine wp_plain [true, true, true, true, true, true, true, true, true, true, true, true, true, true, true, true, true, true, true, true, true, true, true, true] rfl rfl ?_
  refine s_move hE rfl rfl ?_; clear hE a; intro a hE
  obtain ⟨cs82, hs82⟩ := own_rd (hM.get 17 rfl)
  refine s_toStr hE rfl Try.underlying23 Try.underlying5 Try.underlying9 hs82 (by intro X h; cases h) rfl ?_; clear hE a; intro a hE
  refine s_bin hE rfl rfl bins_str.2 rfl ?_; clear hE a; intro a hE
  refine s_move hE rfl rfl ?_; clear hE a; intro a hE
  replace hE := hE.cast 84 rfl (show _ = Value.bool false from (congrArg Value.bool (by first | rfl | decide | (simp; done) | (simp; omega))))
  refine g_yes hE rfl rfl ?_
  refine s_move hE rfl rfl ?_; clear hE a; intro a hE
  refine g_yes hE rfl rfl ?_
  refine s_bin hE rfl rfl bin_neq rfl ?_; clear hE a; intro a hE
  refine s_pickf hE rfl rfl rfl ?_; clear hE a; intro a hE
  refine s_move hE rfl rfl ?_; clear hE a; intro a hE
  replace hE := hE.cast 88 rfl (show _ = Value.bool false from (congrArg Value.bool (by first | rfl | decide | (simp; done) | (simp; omega))))
  refine g_yes hE rfl rfl ?_
  refine s_move hE rfl rfl ?_; clear hE a; intro a hE
  refine g_yes hE rfl rfl ?_
  refine s_bin hE rfl rfl bin_neq rfl ?_; clear hE a; intro a hE
  refine s_pickf hE rfl rfl rfl ?_; clear hE a; intro a hE
  refine s_move hE rfl rfl ?_; clear hE a; intro a hE
  replace hE := hE.cast 92 rfl (show _ = Value.bool false from (congrArg Value.bool (by first | rfl | decide | (simp; done) | (simp; omega))))
  refine g_yes hE rfl rfl ?_
  refine s_move hE rfl rfl ?_; clear hE a; intro a hE
  refine g_yes hE rfl rfl ?_
  refine s_bin hE rfl rfl bin_neq rfl ?_; clear hE a; intro a hE
  refine s_pickf hE rfl rfl rfl ?_; clear hE a; intro a hE
  refine s_move hE rfl rfl ?_; clear hE a; intro a hE
  replace hE := hE.cast 96 rfl (show _ = Value.bool false from (congrArg Value.bool (by first | rfl | decide | (simp; done) | (simp; omega))))
  refine g_yes hE rfl rfl ?_
  refine s_move hE rfl rfl ?_; clear hE a; intro a hE
  refine g_yes hE rfl rfl ?_
  obtain ⟨cs98, hs98⟩ := own_rd (hM.get 13 rfl)
  refine s_toStr hE rfl Try.underlying23 Try.underlying5 Try.underlying9 hs98 (by intro X h; cases h) rfl ?_; clear hE a; intro a hE
  refine g_yes hE rfl rfl ?_
  refine s_bin hE rfl rfl bins_str.2 rfl ?_; clear hE a; intro a hE
  refine s_pickf hE rfl rfl rfl ?_; clear hE a; intro a hE
  refine s_move hE rfl rfl ?_; clear hE a; intro a hE
  replace hE := hE.cast 101 rfl (show _ = Value.bool false from (congrArg Value.bool (by first | rfl | decide | (simp; done) | (simp; omega))))
  refine g_yes hE rfl rfl ?_
  refine s_move hE rfl rfl ?_; clear hE a; intro a hE
  refine g_yes hE rfl rfl ?_
  refine s_bin hE rfl rfl bin_neq rfl ?_; clear hE a; intro a hE
  refine s_pickf hE rfl rfl rfl ?_; clear hE a; intro a hE
  refine q_nil ?_
  replace hE : Env a 235 [(0, _), (9, _), (10, _), (11, _), (12, _), (13, _), (16, _), (19, _), (22, _), (104, _)] := hE.sel [0, 9, 10, 11, 12, 13, 16, 19, 22, 104] rfl
  refine hK12 _ _ ?_
  replace hE := hE.cast 104 rfl (show _ = Value.bool false from (congrArg Value.bool (by first | rfl | decide | (simp; done) | (simp; omega))))
  refine wp_cond_false (hE.eval rfl) ?_
  refine wp_skip ?_
  refine hK11 _ _ ?_
  refine wp_seq_k (fun K13 hK13 => ?_)
  refine wp_seq_k (fun K14 hK14 => ?_)
  refine wp_plain [true, true, true, true, true, true, true, true, true, true, true, true, true, true, true, true, true, true, true, true, true, true, true, true, true, true, true, true, true, true, true, true] rfl rfl ?_
  refine s_move hE rfl rfl ?_; clear hE a; intro a hE
  obtain ⟨cs106, hs106⟩ := own_rd (hM.get 12 rfl)
  refine s_toStr hE rfl Try.underlying23 Try.underlying5 Try.underlying9 hs106 (by intro X h; cases h) rfl ?_; clear hE a; intro a hE
  refine s_bin hE rfl rfl bins_str.2 rfl ?_; clear hE a; intro a hE
  refine s_move hE rfl rfl ?_; clear hE a; intro a hE
  replace hE := hE.cast 108 rfl (show _ = Value.bool false from (congrArg Value.bool (by first | rfl | decide | (simp; done) | (simp; omega))))
  refine g_yes hE rfl rfl ?_
  refine s_move hE rfl rfl ?_; clear hE a; intro a hE
  refine g_yes hE rfl rfl ?_
  refine s_bin hE rfl rfl bin_neq rfl ?_; clear hE a; intro a hE
  refine s_pickf hE rfl rfl rfl ?_; clear hE a; intro a hE
  refine s_move hE rfl rfl ?_; clear hE a; intro a hE
  replace hE := hE.cast 112 rfl (show _ = Value.bool false from (congrArg Value.bool (by first | rfl | decide | (simp; done) | (simp; omega))))
  refine g_yes hE rfl rfl ?_
  refine s_move hE rfl rfl ?_; clear hE a; intro a hE
  refine g_yes hE rfl rfl ?_
  refine s_bin hE rfl rfl bin_neq rfl ?_; clear hE a; intro a hE
  refine s_pickf hE rfl rfl rfl ?_; clear hE a; intro a hE
  refine s_move hE rfl rfl ?_; clear hE a; intro a hE
  replace hE := hE.cast 116 rfl (show _ = Value.bool false from (congrArg Value.bool (by first | rfl | decide | (simp; done) | (simp; omega))))
  refine g_yes hE rfl rfl ?_
  refine s_move hE rfl rfl ?_; clear hE a; intro a hE
  refine g_yes hE rfl rfl ?_
  refine s_len hE rfl Try.underlying22 (own_slice (hM.get 9 rfl)) rfl ?_; clear hE a; intro a hE
  refine g_yes hE rfl rfl ?_
  refine s_bin hE rfl rfl bin_neq rfl ?_; clear hE a; intro a hE
  refine s_pickf hE rfl rfl rfl ?_; clear hE a; intro a hE
  refine s_move hE rfl rfl ?_; clear hE a; intro a hE
  replace hE := hE.cast 121 rfl (show _ = Value.bool false from (congrArg Value.bool (by first | rfl | decide | (simp; done) | (simp; omega))))
  refine g_yes hE rfl rfl ?_
  refine s_move hE rfl rfl ?_; clear hE a; intro a hE
  refine g_yes hE rfl rfl ?_
  refine s_bin hE rfl rfl bin_neq rfl ?_; clear hE a; intro a hE
  refine s_pickf hE rfl rfl rfl ?_; clear hE a; intro a hE
  refine s_move hE rfl rfl ?_; clear hE a; intro a hE
  replace hE := hE.cast 125 rfl (show _ = Value.bool false from (congrArg Value.bool (by first | rfl | decide | (simp; done) | (simp; omega))))
  refine g_yes hE rfl rfl ?_
  refine s_move hE rfl rfl ?_; clear hE a; intro a hE
  refine g_yes hE rfl rfl ?_
  refine s_bin hE rfl rfl bin_neq rfl ?_; clear hE a; intro a hE
  refine s_pickf hE rfl rfl rfl ?_; clear hE a; intro a hE
  refine s_move hE rfl rfl ?_; clear hE a; intro a hE
  replace hE := hE.cast 129 rfl (show _ = Value.bool false from (congrArg Value.bool (by first | rfl | decide | (simp; done) | (simp; omega))))
  refine g_yes hE rfl rfl ?_
  refine s_move hE rfl rfl ?_; clear hE a; intro a hE
  refine g_yes hE rfl rfl ?_
  refine s_bin hE rfl rfl bin_neq rfl ?_; clear hE a; intro a hE
  refine s_pickf hE rfl rfl rfl ?_; clear hE a; intro a hE
  refine s_move hE rfl rfl ?_; clear hE a; intro a hE
  replace hE := hE.cast 133 rfl (show _ = Value.bool false from (congrArg Value.bool (by first | rfl | decide | (simp; done) | (simp; omega))))
  refine g_yes hE rfl rfl ?_
  refine s_move hE rfl rfl ?_; clear hE a; intro a hE
  refine g_yes hE rfl rfl ?_
  refine s_bin hE rfl rfl bin_neq rfl ?_; clear hE a; intro a hE
  refine s_pickf hE rfl rfl rfl ?_; clear hE a; intro a hE
  refine q_nil ?_
  replace hE : Env a 235 [(0, _), (104, _), (136, _)] := hE.sel [0, 104, 136] rfl
  refine hK14 _ _ ?_
  replace hE := hE.cast 136 rfl (show _ = Value.bool false from (congrArg Value.bool (by first | rfl | decide | (simp; done) | (simp; omega))))
  refine wp_cond_false (hE.eval rfl) ?_
  refine wp_skip ?_
  refine hK13 _ _ ?_
  refine wp_seq_k (fun K15 hK15 => ?_)
  refine wp_plain [false, false, true, true, true, true, true] rfl rfl ?_
  refine s_makeSlice (m := 17) (zc := [.slice none 0 0]) hE rfl rfl hM sl22 ⟨_, rfl, rfl⟩ rfl rfl (by decide) (by decide) (by decide) rfl ?_; clear hE a; intro a v138 w15 hE hM'; clear hM; have hM := hM'; clear hM'
  obtain ⟨csr139, hsr139⟩ := own_rd (hM.get 0 rfl)
  obtain ⟨bs139, e139⟩ : ∃ bs0, pRow 76 (List.replicate 17 []) = (bs0, 3) := ⟨_, rfl⟩
  refine s_call hE rfl Try.call11 ((by have h := row_c 76 [] (List.replicate 17 []) _ (List.replicate 17 (.slice none 0 0)) _ _ hsr139 (rdv_rep _ 17) (by decide); rw [e139] at h; exact h)) rfl ?_
  rintro e w16 ⟨v139, rfl, hN⟩
  refine ⟨_, rfl, trivial, ?_⟩; clear hE a; intro a hE
  replace hM : Mem _ _ w16 [_, _, _, _, _, _, _, _, _, _, _, _, _, _, _, _, _, _, _, _] := hM.call0 hN ⟨rfl, trivial⟩; clear hN
  refine s_move hE rfl rfl ?_; clear hE a; intro a hE
  refine s_extract hE rfl rfl rfl ?_; clear hE a; intro a hE
  refine s_extract hE rfl rfl rfl ?_; clear hE a; intro a hE
  refine s_assign hE rfl rfl ?_; clear hE a; intro a hE
  refine s_assign hE rfl rfl ?_; clear hE a; intro a hE
  refine q_nil ?_
  replace hE : Env a 235 [(0, _), (24, _), (104, _), (136, _)] := hE.sel [0, 24, 104, 136] rfl
  refine hK15 _ _ ?_
  refine wp_seq_k (fun K16 hK16 => ?_)
  refine wp_plain [false, false, true, true, true, true, true] rfl rfl ?_
  refine s_makeSlice (m := 16) (zc := [.slice none 0 0]) hE rfl rfl hM sl22 ⟨_, rfl, rfl⟩ rfl rfl (by decide) (by decide) (by decide) rfl ?_; clear hE a; intro a v143 w17 hE hM'; clear hM; have hM := hM'; clear hM'
  obtain ⟨csr144, hsr144⟩ := own_rd (hM.get 0 rfl)
  obtain ⟨bs144, e144⟩ : ∃ bs0, pRow 76 (List.replicate 16 []) = (bs0, 0) := ⟨_, rfl⟩
  refine s_call hE rfl Try.call11 ((by have h := row_c 76 [] (List.replicate 16 []) _ (List.replicate 16 (.slice none 0 0)) _ _ hsr144 (rdv_rep _ 16) (by decide); rw [e144] at h; exact h)) rfl ?_
  rintro e w18 ⟨v144, rfl, hN⟩
  refine ⟨_, rfl, trivial, ?_⟩; clear hE a; intro a hE
  replace hM : Mem _ _ w18 [_, _, _, _, _, _, _, _, _, _, _, _, _, _, _, _, _, _, _, _, _, _] := hM.call0 hN ⟨rfl, trivial⟩; clear hN
  refine s_move hE rfl rfl ?_; clear hE a; intro a hE
  refine s_extract hE rfl rfl rfl ?_; clear hE a; intro a hE
  refine s_extract hE rfl rfl rfl ?_; clear hE a; intro a hE
  refine s_assign hE rfl rfl ?_; clear hE a; intro a hE
  refine s_assign hE rfl rfl ?_; clear hE a; intro a hE
  refine q_nil ?_
  replace hE : Env a 235 [(0, _), (24, _), (26, _), (104, _), (136, _)] := hE.sel [0, 24, 26, 104, 136] rfl
  refine hK16 _ _ ?_
  refine wp_seq_k (fun K17 hK17 => ?_)
  refine wp_plain [false, false, true] rfl rfl ?_
  refine s_buildSlice (xs := [.const (.int .u8 0), .const (.int .u8 2), .const (.int .u8 97), .const (.int .u8 98), .const (.int .u8 99)]) (bv [0, 2, 97, 98, 99]) hE hM sl23 rfl rfl rfl (by intro v hv; simp at hv; rcases hv with rfl | rfl | rfl | rfl | rfl <;> rfl) rfl rfl rfl rfl ?_; clear hE a; intro a v147 w19 hE hM'
  clear hM; have hM := hM'; clear hM'
  obtain ⟨cso148, hso148⟩ := own_rd (hM.get 0 rfl)
  refine s_call hE rfl Try.call24 (open_c [0, 2, 97, 98, 99] _ _ _ hso148 (by decide)) rfl ?_
  rintro e w20 ⟨tb148, bb148, rfl, hbb, hN⟩
  refine ⟨_, rfl, trivial, ?_⟩; clear hE a; intro a hE
  replace hM : Mem _ _ w20 [_, _, _, _, _, _, _, _, _, _, _, _, _, _, _, _, _, _, _, _, _, _, _, _] := hM.callN hN (fun e he x hx => by rw [List.mem_singleton.1 he] at hx; exact hbb x hx); clear hN
  clear hbb
  refine s_assign hE rfl rfl ?_; clear hE a; intro a hE
  refine q_nil ?_
  replace hE : Env a 235 [(0, _), (24, _), (26, _), (27, _), (104, _), (136, _)] := hE.sel [0, 24, 26, 27, 104, 136] rfl
  refine hK17 _ _ ?_
  refine wp_seq_k (fun K18 hK18 => ?_)
  refine wp_plain [true, false, true] rfl rfl ?_
  refine s_move hE rfl rfl ?_; clear hE a; intro a hE
  refine s_call hE rfl Try.call30 ((by have h := tapText_c tb148 bb148 [0, 2, 97, 98, 99] false 1 _ (hM.get 0 rfl); rw [show tText [0, 2, 97, 98, 99] false 1 = ([], [0, 2, 97, 98, 99], true) from by decide +kernel] at h; exact h)) rfl ?_
  rintro e w21 ⟨rfl, hN⟩
  refine ⟨_, rfl, trivial, ?_⟩; clear hE a; intro a hE
  replace hM : Mem _ _ w21 [_, _, _, _, _, _, _, _, _, _, _, _, _, _, _, _, _, _, _, _, _, _, _, _] := hM.call1 hN (fun f hf x hx => by rw [List.mem_singleton.1 hf] at hx; exact .inl hx); clear hN
  refine s_assign hE rfl rfl ?_; clear hE a; intro a hE
  refine q_nil ?_
  replace hE : Env a 235 [(0, _), (24, _), (26, _), (27, _), (28, _), (104, _), (136, _)] := hE.sel [0, 24, 26, 27, 28, 104, 136] rfl
  refine hK18 _ _ ?_
  refine wp_seq_k (fun K19 hK19 => ?_)
  refine wp_plain [true, false, true] rfl rfl ?_
  refine s_move hE rfl rfl ?_; clear hE a; intro a hE
  refine s_call hE rfl Try.call32 (tapTorn_c tb148 bb148 _ _ _ (hM.get 0 rfl)) rfl ?_
  rintro e w22 ⟨rfl, hN⟩
  refine ⟨_, rfl, trivial, ?_⟩; clear hE a; intro a hE
  replace hM : Mem _ _ w22 [_, _, _, _, _, _, _, _, _, _, _, _, _, _, _, _, _, _, _, _, _, _, _, _] := hM.call0 hN trivial; clear hN
  refine s_assign hE rfl rfl ?_; clear hE a; intro a hE
  refine q_nil ?_
  replace hE : Env a 235 [(0, _), (24, _), (26, _), (27, _), (28, _), (29, _), (104, _), (136, _)] := hE.sel [0, 24, 26, 27, 28, 29, 104, 136] rfl
  refine hK19 _ _ ?_
  refine wp_seq_k (fun K20 hK20 => ?_)
  refine wp_plain [true, false, true] rfl rfl ?_
  refine s_move hE rfl rfl ?_; clear hE a; intro a hE
  refine s_call hE rfl Try.call30 ((by have h := tapText_c tb148 bb148 [0, 2, 97, 98, 99] true 2 _ (hM.get 0 rfl); rw [show tText [0, 2, 97, 98, 99] true 2 = ([], [0, 2, 97, 98, 99], true) from by decide +kernel] at h; exact h)) rfl ?_
  rintro e w23 ⟨rfl, hN⟩
  refine ⟨_, rfl, trivial, ?_⟩; clear hE a; intro a hE
  replace hM : Mem _ _ w23 [_, _, _, _, _, _, _, _, _, _, _, _, _, _, _, _, _, _, _, _, _, _, _, _] := hM.call1 hN (fun f hf x hx => by rw [List.mem_singleton.1 hf] at hx; exact .inl hx); clear hN
  refine s_assign hE rfl rfl ?_; clear hE a; intro a hE
  refine q_nil ?_
  replace hE : Env a 235 [(0, _), (24, _), (26, _), (27, _), (28, _), (29, _), (30, _), (104, _), (136, _)] := hE.sel [0, 24, 26, 27, 28, 29, 30, 104, 136] rfl
  refine hK20 _ _ ?_
  refine wp_seq_k (fun K21 hK21 => ?_)
  refine wp_plain [false, false, true] rfl rfl ?_
  refine s_buildSlice (xs := [.const (.int .u8 0), .const (.int .u8 2), .const (.int .u8 97), .const (.int .u8 98), .const (.int .u8 99)]) (bv [0, 2, 97, 98, 99]) hE hM sl23 rfl rfl rfl (by intro v hv; simp at hv; rcases hv with rfl | rfl | rfl | rfl | rfl <;> rfl) rfl rfl rfl rfl ?_; clear hE a; intro a v155 w24 hE hM'
  clear hM; have hM := hM'; clear hM'
  obtain ⟨cso156, hso156⟩ := own_rd (hM.get 0 rfl)
  refine s_call hE rfl Try.call24 (open_c [0, 2, 97, 98, 99] _ _ _ hso156 (by decide)) rfl ?_
  rintro e w25 ⟨tb156, bb156, rfl, hbb, hN⟩
  refine ⟨_, rfl, trivial, ?_⟩; clear hE a; intro a hE
  replace hM : Mem _ _ w25 [_, _, _, _, _, _, _, _, _, _, _, _, _, _, _, _, _, _, _, _, _, _, _, _, _, _] := hM.callN hN (fun e he x hx => by rw [List.mem_singleton.1 he] at hx; exact hbb x hx); clear hN
  clear hbb
  refine s_assign hE rfl rfl ?_; clear hE a; intro a hE
  refine q_nil ?_
  replace hE : Env a 235 [(0, _), (24, _), (26, _), (27, _), (28, _), (29, _), (30, _), (31, _), (104, _), (136, _)] := hE.sel [0, 24, 26, 27, 28, 29, 30, 31, 104, 136] rfl
  refine hK21 _ _ ?_
  refine wp_seq_k (fun K22 hK22 => ?_)
  refine wp_plain [true, false, true] rfl rfl ?_
  refine s_move hE rfl rfl ?_; clear hE a; intro a hE
  refine s_call hE rfl Try.call30 ((by have h := tapText_c tb156 bb156 [0, 2, 97, 98, 99] false 2 _ (hM.get 0 rfl); rw [show tText [0, 2, 97, 98, 99] false 2 = ([97, 98], [99], false) from by decide +kernel] at h; exact h)) rfl ?_
  rintro e w26 ⟨rfl, hN⟩
  refine ⟨_, rfl, trivial, ?_⟩; clear hE a; intro a hE
  replace hM : Mem _ _ w26 [_, _, _, _, _, _, _, _, _, _, _, _, _, _, _, _, _, _, _, _, _, _, _, _, _, _] := hM.call1 hN (fun f hf x hx => by rw [List.mem_singleton.1 hf] at hx; exact .inl hx); clear hN
  refine s_assign hE rfl rfl ?_; clear hE a; intro a hE
  refine q_nil ?_
  replace hE : Env a 235 [(0, _), (24, _), (26, _), (27, _), (28, _), (29, _), (30, _), (31, _), (32, _), (104, _), (136, _)] := hE.sel [0, 24, 26, 27, 28, 29, 30, 31, 32, 104, 136] rfl
  refine hK22 _ _ ?_
  refine wp_seq_k (fun K23 hK23 => ?_)
  refine wp_plain [true, false, true] rfl rfl ?_
  refine s_move hE rfl rfl ?_; clear hE a; intro a hE
  refine s_call hE rfl Try.call25 ((by have h := tapBytes_c tb156 bb156 [99] false 1 _ (hM.get 0 rfl); rw [show tBytes [99] false 1 = ([99], [], false) from by decide +kernel] at h; exact h)) rfl ?_
  rintro e w27 ⟨v160, c160, rfl, hv160, hN⟩
  refine ⟨_, rfl, trivial, ?_⟩; clear hE a; intro a hE
  replace hM : Mem _ _ w27 [_, _, _, _, _, _, _, _, _, _, _, _, _, _, _, _, _, _, _, _, _, _, _, _, _, _, _] := hM.call1 hN (fun f hf x hx => (List.mem_cons.1 hf).elim (fun h => by subst h; exact .inl (hv160 x hx)) (fun h => by rw [List.mem_singleton.1 h] at hx; exact .inl hx)); clear hN
  refine s_assign hE rfl rfl ?_; clear hE a; intro a hE
  refine q_nil ?_
  replace hE : Env a 235 [(0, _), (24, _), (26, _), (27, _), (28, _), (29, _), (30, _), (31, _), (32, _), (33, _), (104, _), (136, _)] := hE.sel [0, 24, 26, 27, 28, 29, 30, 31, 32, 33, 104, 136] rfl
  refine hK23 _ _ ?_
  refine wp_seq_k (fun K24 hK24 => ?_)
  refine wp_plain [true] rfl rfl ?_
  refine s_assign hE rfl rfl ?_; clear hE a; intro a hE
  refine q_nil ?_
  refine hK24 _ _ ?_
  refine wp_seq_k (fun K25 hK25 => ?_)
  refine wp_plain [true, false, true] rfl rfl ?_
  refine s_buildS [] hE rfl zero66 rfl fpl66 trivial rfl ?_; clear hE a; intro a hE
  refine s_box (ss := [[.slice none 0 0], [.bool false], [.bool false]]) [1, 1, 1] hE hM rfl rfl rfl rfl ?_; clear hE a; intro a emp w28 hE hM'
  clear hM; have hM := hM'; clear hM'
  refine s_assign hE rfl rfl ?_; clear hE a; intro a hE
  refine q_nil ?_
  replace hE : Env a 235 [(0, _), (24, _), (26, _), (27, _), (28, _), (29, _), (30, _), (31, _), (32, _), (33, _), (34, _), (35, _), (104, _), (136, _)] := hE.sel [0, 24, 26, 27, 28, 29, 30, 31, 32, 33, 34, 35, 104, 136] rfl
  refine hK25 _ _ ?_
  refine wp_seq_k (fun K26 hK26 => ?_)
  refine wp_plain [true, true, true, true, true, true, true, true, true, true, true, true, true, true, true, true, true, true, true, false, true, true, true, true, true, true, true, true, true, true, true, true, true, false, true, true, true, false, true, true, true, true, false, true, true, true, true, false, true, true, true, false, true, true, true, true, false, true, true, true, true, false, true, true, true, true, true, false, true, true, false, true, true] rfl rfl ?_
  refine s_move hE rfl rfl ?_; clear hE a; intro a hE
  refine s_bin hE rfl rfl bin_eql rfl ?_; clear hE a; intro a hE
  refine s_move hE rfl rfl ?_; clear hE a; intro a hE
  replace hE := hE.cast 165 rfl (show _ = Value.bool true from (congrArg Value.bool (by first | rfl | decide | (simp; done) | (simp; omega))))
  refine g_yes hE rfl rfl ?_
  refine s_move hE rfl rfl ?_; clear hE a; intro a hE
  refine g_yes hE rfl rfl ?_
  refine s_bin hE rfl rfl bin_eql rfl ?_; clear hE a; intro a hE
  refine s_pickt hE rfl rfl rfl ?_; clear hE a; intro a hE
  refine s_move hE rfl rfl ?_; clear hE a; intro a hE
  replace hE := hE.cast 169 rfl (show _ = Value.bool true from (congrArg Value.bool (by first | rfl | decide | (simp; done) | (simp; omega))))
  refine g_yes hE rfl rfl ?_
  refine s_move hE rfl rfl ?_; clear hE a; intro a hE
  refine g_yes hE rfl rfl ?_
  refine s_bin hE rfl rfl bins_str.1 rfl ?_; clear hE a; intro a hE
  refine s_pickt hE rfl rfl rfl ?_; clear hE a; intro a hE
  refine s_move hE rfl rfl ?_; clear hE a; intro a hE
  replace hE := hE.cast 173 rfl (show _ = Value.bool true from (congrArg Value.bool (by first | rfl | decide | (simp; done) | (simp; omega))))
  refine g_yes hE rfl rfl ?_
  refine s_move hE rfl rfl ?_; clear hE a; intro a hE
  refine s_pickt hE rfl rfl rfl ?_; clear hE a; intro a hE
  refine s_move hE rfl rfl ?_; clear hE a; intro a hE
  replace hE := hE.cast 176 rfl (show _ = Value.bool true from (congrArg Value.bool (by first | rfl | decide | (simp; done) | (simp; omega))))
  refine g_yes hE rfl rfl ?_
  refine s_move hE rfl rfl ?_; clear hE a; intro a hE
  refine g_yes hE rfl rfl ?_
  refine s_bin hE rfl rfl bins_str.1 rfl ?_; clear hE a; intro a hE
  refine s_pickt hE rfl rfl rfl ?_; clear hE a; intro a hE
  refine s_move hE rfl rfl ?_; clear hE a; intro a hE
  replace hE := hE.cast 180 rfl (show _ = Value.bool true from (congrArg Value.bool (by first | rfl | decide | (simp; done) | (simp; omega))))
  refine g_yes hE rfl rfl ?_
  refine s_move hE rfl rfl ?_; clear hE a; intro a hE
  refine g_yes hE rfl rfl ?_
  refine s_call hE rfl Try.call26 (tapEnd_c tb148 bb148 _ _ _ (hM.get 4 rfl)) rfl ?_
  rintro e w29 ⟨rfl, hN⟩
  refine ⟨_, rfl, trivial, ?_⟩; clear hE a; intro a hE
  replace hM : Mem _ _ w29 [_, _, _, _, _, _, _, _, _, _, _, _, _, _, _, _, _, _, _, _, _, _, _, _, _, _, _, _] := hM.call0 hN trivial; clear hN
  refine g_yes hE rfl rfl ?_
  refine s_not hE rfl rfl ?_; clear hE a; intro a hE
  refine s_pickt hE rfl rfl rfl ?_; clear hE a; intro a hE
  refine s_move hE rfl rfl ?_; clear hE a; intro a hE
  replace hE := hE.cast 185 rfl (show _ = Value.bool true from (congrArg Value.bool (by first | rfl | decide | (simp; done) | (simp; omega))))
  refine g_yes hE rfl rfl ?_
  refine s_move hE rfl rfl ?_; clear hE a; intro a hE
  refine g_yes hE rfl rfl ?_
  refine s_bin hE rfl rfl bins_str.1 rfl ?_; clear hE a; intro a hE
  refine s_pickt hE rfl rfl rfl ?_; clear hE a; intro a hE
  refine s_move hE rfl rfl ?_; clear hE a; intro a hE
  replace hE := hE.cast 189 rfl (show _ = Value.bool true from (congrArg Value.bool (by first | rfl | decide | (simp; done) | (simp; omega))))
  refine g_yes hE rfl rfl ?_
  refine s_move hE rfl rfl ?_; clear hE a; intro a hE
  refine g_yes hE rfl rfl ?_
  refine s_toStr hE rfl Try.underlying23 Try.underlying5 Try.underlying9 (hM.get 1 rfl) (by intro X h; cases h) rfl ?_; clear hE a; intro a hE
  refine g_yes hE rfl rfl ?_
  refine s_bin hE rfl rfl bins_str.1 rfl ?_; clear hE a; intro a hE
  refine s_pickt hE rfl rfl rfl ?_; clear hE a; intro a hE
  refine s_move hE rfl rfl ?_; clear hE a; intro a hE
  replace hE := hE.cast 194 rfl (show _ = Value.bool true from (congrArg Value.bool (by first | rfl | decide | (simp; done) | (simp; omega))))
  refine g_yes hE rfl rfl ?_
  refine s_move hE rfl rfl ?_; clear hE a; intro a hE
  refine g_yes hE rfl rfl ?_
  refine s_call hE rfl Try.call26 (tapEnd_c tb156 bb156 _ _ _ (hM.get 2 rfl)) rfl ?_
  rintro e w30 ⟨rfl, hN⟩
  refine ⟨_, rfl, trivial, ?_⟩; clear hE a; intro a hE
  replace hM : Mem _ _ w30 [_, _, _, _, _, _, _, _, _, _, _, _, _, _, _, _, _, _, _, _, _, _, _, _, _, _, _, _] := hM.call0 hN trivial; clear hN
  refine s_pickt hE rfl rfl rfl ?_; clear hE a; intro a hE
  refine s_move hE rfl rfl ?_; clear hE a; intro a hE
  replace hE := hE.cast 198 rfl (show _ = Value.bool true from (congrArg Value.bool (by first | rfl | decide | (simp; done) | (simp; omega))))
  refine g_yes hE rfl rfl ?_
  refine s_move hE rfl rfl ?_; clear hE a; intro a hE
  refine g_yes hE rfl rfl ?_
  refine s_call hE rfl Try.call32 (tapTorn_c tb156 bb156 _ _ _ (hM.get 2 rfl)) rfl ?_
  rintro e w31 ⟨rfl, hN⟩
  refine ⟨_, rfl, trivial, ?_⟩; clear hE a; intro a hE
  replace hM : Mem _ _ w31 [_, _, _, _, _, _, _, _, _, _, _, _, _, _, _, _, _, _, _, _, _, _, _, _, _, _, _, _] := hM.call0 hN trivial; clear hN
  refine g_yes hE rfl rfl ?_
  refine s_not hE rfl rfl ?_; clear hE a; intro a hE
  refine s_pickt hE rfl rfl rfl ?_; clear hE a; intro a hE
  refine s_move hE rfl rfl ?_; clear hE a; intro a hE
  replace hE := hE.cast 203 rfl (show _ = Value.bool true from (congrArg Value.bool (by first | rfl | decide | (simp; done) | (simp; omega))))
  refine g_yes hE rfl rfl ?_
  refine s_move hE rfl rfl ?_; clear hE a; intro a hE
  refine g_yes hE rfl rfl ?_
  refine s_call hE rfl Try.call27 (num_nil _) rfl ?_
  rintro e w32 ⟨rfl, hN⟩
  refine ⟨_, rfl, trivial, ?_⟩; clear hE a; intro a hE
  replace hM : Mem _ _ w32 [_, _, _, _, _, _, _, _, _, _, _, _, _, _, _, _, _, _, _, _, _, _, _, _, _, _, _, _] := hM.call0 hN trivial; clear hN
  refine g_yes hE rfl rfl ?_
  refine s_bin hE rfl rfl bin_eql rfl ?_; clear hE a; intro a hE
  refine s_pickt hE rfl rfl rfl ?_; clear hE a; intro a hE
  refine s_move hE rfl rfl ?_; clear hE a; intro a hE
  replace hE := hE.cast 208 rfl (show _ = Value.bool true from (congrArg Value.bool (by first | rfl | decide | (simp; done) | (simp; omega))))
  refine g_yes hE rfl rfl ?_
  refine s_move hE rfl rfl ?_; clear hE a; intro a hE
  refine g_yes hE rfl rfl ?_
  refine s_call hE rfl Try.call32 (torn_nil _) rfl ?_
  rintro e w33 ⟨rfl, hN⟩
  refine ⟨_, rfl, trivial, ?_⟩; clear hE a; intro a hE
  replace hM : Mem _ _ w33 [_, _, _, _, _, _, _, _, _, _, _, _, _, _, _, _, _, _, _, _, _, _, _, _, _, _, _, _] := hM.call0 hN trivial; clear hN
  refine s_pickt hE rfl rfl rfl ?_; clear hE a; intro a hE
  refine s_move hE rfl rfl ?_; clear hE a; intro a hE
  replace hE := hE.cast 212 rfl (show _ = Value.bool true from (congrArg Value.bool (by first | rfl | decide | (simp; done) | (simp; omega))))
  refine g_yes hE rfl rfl ?_
  refine s_move hE rfl rfl ?_; clear hE a; intro a hE
  refine g_yes hE rfl rfl ?_
  refine s_call hE rfl Try.call26 (end_nil _) rfl ?_
  rintro e w34 ⟨rfl, hN⟩
  refine ⟨_, rfl, trivial, ?_⟩; clear hE a; intro a hE
  replace hM : Mem _ _ w34 [_, _, _, _, _, _, _, _, _, _, _, _, _, _, _, _, _, _, _, _, _, _, _, _, _, _, _, _] := hM.call0 hN trivial; clear hN
  refine g_yes hE rfl rfl ?_
  refine s_not hE rfl rfl ?_; clear hE a; intro a hE
  refine s_pickt hE rfl rfl rfl ?_; clear hE a; intro a hE
  refine s_move hE rfl rfl ?_; clear hE a; intro a hE
  replace hE := hE.cast 217 rfl (show _ = Value.bool true from (congrArg Value.bool (by first | rfl | decide | (simp; done) | (simp; omega))))
  refine g_yes hE rfl rfl ?_
  refine s_move hE rfl rfl ?_; clear hE a; intro a hE
  refine g_yes hE rfl rfl ?_
  refine s_call hE rfl Try.call30 (text_empty _ _ _ _ (hM.get 0 rfl)) rfl ?_
  rintro e w35 ⟨rfl, hN⟩
  refine ⟨_, rfl, trivial, ?_⟩; clear hE a; intro a hE
  replace hM : Mem _ _ w35 [_, _, _, _, _, _, _, _, _, _, _, _, _, _, _, _, _, _, _, _, _, _, _, _, _, _, _, _] := hM.call1' hN ⟨rfl, trivial⟩; clear hN
  refine g_yes hE rfl rfl ?_
  refine s_bin hE rfl rfl bins_str.1 rfl ?_; clear hE a; intro a hE
  refine s_pickt hE rfl rfl rfl ?_; clear hE a; intro a hE
  refine s_move hE rfl rfl ?_; clear hE a; intro a hE
  replace hE := hE.cast 222 rfl (show _ = Value.bool true from (congrArg Value.bool (by first | rfl | decide | (simp; done) | (simp; omega))))
  refine g_yes hE rfl rfl ?_
  refine s_move hE rfl rfl ?_; clear hE a; intro a hE
  refine g_yes hE rfl rfl ?_
  refine s_call hE rfl Try.call25 (bytes_empty _ _ _ _ (hM.get 0 rfl)) rfl ?_
  rintro e w36 ⟨rfl, hN⟩
  refine ⟨_, rfl, trivial, ?_⟩; clear hE a; intro a hE
  replace hM : Mem _ _ w36 [_, _, _, _, _, _, _, _, _, _, _, _, _, _, _, _, _, _, _, _, _, _, _, _, _, _, _, _] := hM.call1' hN ⟨rfl, trivial⟩; clear hN
  refine g_yes hE rfl rfl ?_
  refine s_len hE rfl Try.underlying23 ⟨none, 0, rfl⟩ rfl ?_; clear hE a; intro a hE
  refine g_yes hE rfl rfl ?_
  refine s_bin hE rfl rfl bin_eql rfl ?_; clear hE a; intro a hE
  refine s_pickt hE rfl rfl rfl ?_; clear hE a; intro a hE
  refine s_move hE rfl rfl ?_; clear hE a; intro a hE
  replace hE := hE.cast 228 rfl (show _ = Value.bool true from (congrArg Value.bool (by first | rfl | decide | (simp; done) | (simp; omega))))
  refine g_yes hE rfl rfl ?_
  refine s_move hE rfl rfl ?_; clear hE a; intro a hE
  refine g_yes hE rfl rfl ?_
  refine s_call hE rfl Try.call32 (torn_empty _ _ _ (hM.get 0 rfl)) rfl ?_
  rintro e w37 ⟨rfl, hN⟩
  refine ⟨_, rfl, trivial, ?_⟩; clear hE a; intro a hE
  replace hM : Mem _ _ w37 [_, _, _, _, _, _, _, _, _, _, _, _, _, _, _, _, _, _, _, _, _, _, _, _, _, _, _, _] := hM.call0 hN trivial; clear hN
  refine s_pickt hE rfl rfl rfl ?_; clear hE a; intro a hE
  refine s_move hE rfl rfl ?_; clear hE a; intro a hE
  replace hE := hE.cast 232 rfl (show _ = Value.bool true from (congrArg Value.bool (by first | rfl | decide | (simp; done) | (simp; omega))))
  refine g_yes hE rfl rfl ?_
  refine s_call hE rfl Try.call16 (works_c _) rfl ?_
  rintro e w38 ⟨rfl, hN⟩
  refine ⟨_, rfl, trivial, ?_⟩; clear hE a; intro a hE
  replace hM : Mem _ _ w38 [_, _, _, _, _, _, _, _, _, _, _, _, _, _, _, _, _, _, _, _, _, _, _, _, _, _, _, _] := hM.call0 hN trivial; clear hN
  refine s_pickt hE rfl rfl rfl ?_; clear hE a; intro a hE
  refine s_assign hE rfl rfl ?_; clear hE a; intro a hE
  refine q_nil ?_
  replace hE : Env a 235 [(0, _), (27, _), (31, _), (104, _), (136, _)] := hE.sel [0, 27, 31, 104, 136] rfl
  refine hK26 _ _ ?_
  refine wp_ret ?_
  refine f_ret1 hE rfl rfl ?_
  exact ⟨rfl, hM.nil⟩
set_option maxRecDepth 100000 in
theorem bytesKnown_lifted (os : Os) (started : os.Started) (H : Type) (enc : TypeId × Value → H) :
    ReturnsInHanded {} Try.checked os 9 .any (Rows.bytesKnownSpec.pre6 enc Try.prog Try.f9 Rows.bytesKnownRow.domain false) (Rows.bytesKnownSpec.post enc Try.prog Try.f9 false true false false) := by
  refine law_lifted (C := Try.checked) (fn := Try.f9) (by kernel_rfl) started (by kernel_rfl) Try.func9 rfl (fun ds hl => ?_) rfl Try.underlying4 (by kernel_rfl) (of_decide_eq_true (by kernel_rfl)) (ChangeSpec.witness6 (enc := enc) (C := Try.checked) false ⟨#[], #[], []⟩ 8 (by kernel_rfl) (by kernel_rfl) (by kernel_rfl) (by kernel_rfl)) ?_
  · rw [Try.params9] at hl
    match ds, hl with
    | [], _ => rfl
  · intro W base args ds ps hval hA hw
    rw [Try.params9] at hA hval hw
    obtain ⟨hargs, rfl, rfl⟩ := trodAll_nil hA
    obtain rfl : args = #[] := by cases args; simp_all
    exact bytesKnown_c W

/-- The statement. -/
theorem bytesKnown_holds : Rows.BytesKnownSaid :=
  OpenClaim.holds_of_wide 9 Try.f9 rfl rfl rfl rfl rfl rfl rfl ⟨rfl, rfl, rfl, rfl, rfl⟩ rfl rfl rfl rfl rfl (by kernel_rfl) Try.func9 (by kernel_rfl)
    (of_decide_eq_true (by kernel_rfl)) (by unfold Func.isWrapper; first | (rw [if_pos (by decide +kernel)]; kernel_rfl) | (rw [if_neg (by decide +kernel)]; exact ⟨rfl, rfl⟩))
    (fun os started H enc _ => bytesKnown_lifted os started H enc)
#print axioms bytesKnown_holds
end Go.Proofs.Ytfdndkempgnlcaa
