/- What runes are, in plain numbers: great and small letters, kinds, the small one of a great letter. No program in sight. -/
namespace Go.Proofs.YtgcdopafblcbhaaGreatDoor
set_option linter.unusedVariables false
def GreatR (r : Int) : Prop := (65 ≤ r ∧ r ≤ 90) ∨ (192 ≤ r ∧ r ≤ 222 ∧ r ≠ 215) ∨ (256 ≤ r ∧ r ≤ 311 ∧ r % 2 = 0) ∨ (330 ≤ r ∧ r ≤ 375 ∧ r % 2 = 0) ∨ (313 ≤ r ∧ r ≤ 328 ∧ r % 2 = 1) ∨ r = 376 ∨ (377 ≤ r ∧ r ≤ 381 ∧ r % 2 = 1) ∨
  (902 ≤ r ∧ r ≤ 911 ∧ r ≠ 903 ∧ r ≠ 907 ∧ r ≠ 909) ∨ (913 ≤ r ∧ r ≤ 939 ∧ r ≠ 930) ∨ (1024 ≤ r ∧ r ≤ 1071)
instance (r : Int) : Decidable (GreatR r) := by unfold GreatR; infer_instance
def SmallR (r : Int) : Prop := (97 ≤ r ∧ r ≤ 122) ∨ (223 ≤ r ∧ r ≤ 255 ∧ r ≠ 247) ∨ (256 ≤ r ∧ r ≤ 311 ∧ r % 2 = 1) ∨ (330 ≤ r ∧ r ≤ 375 ∧ r % 2 = 1) ∨ r = 312 ∨ r = 329 ∨ r = 383 ∨ r = 912 ∨ (313 ≤ r ∧ r ≤ 328 ∧ r % 2 = 0) ∨ (378 ≤ r ∧ r ≤ 382 ∧ r % 2 = 0) ∨
  (940 ≤ r ∧ r ≤ 974) ∨ (1072 ≤ r ∧ r ≤ 1119)
instance (r : Int) : Decidable (SmallR r) := by unfold SmallR; infer_instance
def LetR (r : Int) : Prop := GreatR r ∨ SmallR r
instance (r : Int) : Decidable (LetR r) := by unfold LetR; infer_instance
def MarkR (r : Int) : Prop := 768 ≤ r ∧ r ≤ 879
instance (r : Int) : Decidable (MarkR r) := by unfold MarkR; infer_instance
def BlankR (r : Int) : Prop := r = 9 ∨ r = 32 ∨ r = 160 ∨ r = 8239 ∨ r = 8287 ∨ r = 12288 ∨ (8192 ≤ r ∧ r ≤ 8202)
instance (r : Int) : Decidable (BlankR r) := by unfold BlankR; infer_instance
def QuoteR (r : Int) : Prop := r = 34 ∨ r = 39 ∨ r = 171 ∨ r = 187 ∨ r = 8249 ∨ r = 8250 ∨ (8216 ≤ r ∧ r ≤ 8223)
instance (r : Int) : Decidable (QuoteR r) := by unfold QuoteR; infer_instance
def PointR (r : Int) : Prop := r = 33 ∨ r = 44 ∨ r = 46 ∨ r = 58 ∨ r = 59 ∨ r = 63 ∨ r = 161 ∨ r = 183 ∨ r = 191 ∨ r = 8230
instance (r : Int) : Decidable (PointR r) := by unfold PointR; infer_instance
def CtrlR (r : Int) : Prop := r < 32 ∨ (127 ≤ r ∧ r ≤ 159) ∨ (8203 ≤ r ∧ r ≤ 8207) ∨ r = 65279
instance (r : Int) : Decidable (CtrlR r) := by unfold CtrlR; infer_instance
def kindP (r : Int) : Int :=
  if r < 0 ∨ (55296 ≤ r ∧ r ≤ 57343) ∨ 1114111 < r then 0 else if LetR r then 1 else if MarkR r then 2 else if 48 ≤ r ∧ r ≤ 57 then 3 else if r = 10 ∨ r = 13 then 4 else if BlankR r then 5
  else if r = 45 ∨ (8208 ≤ r ∧ r ≤ 8213) then 6 else if QuoteR r then 7 else if PointR r then 8 else if CtrlR r then 9 else 10
def lowerP (r : Int) : Int :=
  if ¬ GreatR r then r else if r = 304 then 105 else if r = 376 then 255 else if r = 902 then 940 else if r = 908 then 972 else if 904 ≤ r ∧ r ≤ 906 then r + 37 else if r = 910 ∨ r = 911 then r + 63
  else if 1024 ≤ r ∧ r ≤ 1039 then r + 80 else if r < 256 ∨ 383 < r then r + 32 else r + 1
end Go.Proofs.YtgcdopafblcbhaaGreatDoor
