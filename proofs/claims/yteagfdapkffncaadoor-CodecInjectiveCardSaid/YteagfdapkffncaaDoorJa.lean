/- What is proved: in plain Lean: words out of bytes: what the decoders of words return, for bytes of any number of whole words. -/
import Derived.Test.YteagfdapkffncaaDoorPa
import Derived.Test.YteagfdapkffncaaDoorPx1
import Derived.Test.YteagfdapkffncaaDoorPx3
import Derived.Laws.Bits64b
set_option linter.unusedVariables false
set_option linter.unusedSimpArgs false
namespace Go.Proofs.YteagfdapkffncaaDoor.P
open Go.RowKit Go.Proofs.YteagfdapkffncaaDoorW.PrintWords Go.Proofs.YteagfdapkffncaaDoorW.PrintLast Go.Proofs.YteagfdapkffncaaDoorW.PrintMore

def U64 (x : Int) : Prop := 0 ≤ x ∧ x < 18446744073709551616
theorem wrapU_u64 (x : Int) : U64 (IntKind.u64.wrap x) := by
  unfold U64; simp [IntKind.wrap, IntKind.bits, IntKind.signed]; omega
theorem wrapU_nat (n : Nat) (h : n < 18446744073709551616) : IntKind.u64.wrap (n : Int) = (n : Int) := by
  simp [IntKind.wrap, IntKind.bits, IntKind.signed]; omega
theorem u64_of_wf {n : Int} (h : (Lit.int .u64 n).wf = true) : U64 n := by
  simp [Lit.wf, IntKind.min, IntKind.max, IntKind.bits, IntKind.signed] at h; unfold U64; omega
theorem enc_cons (z : Int) (l : List Int) : Enc.enc (z :: l) = Enc.upto z 8 ++ Enc.enc l := by simp [Enc.enc]

/-- The number that bytes tell, the lowest first. -/
def wn : List UInt8 → Nat
  | [] => 0
  | b :: l => b.toNat + 256 * wn l
theorem wn_append (a c : List UInt8) : wn (a ++ c) = wn a + 256 ^ a.length * wn c := by
  induction a with
  | nil => simp [wn]
  | cons x a ih => simp only [List.cons_append, wn, ih, List.length_cons, Nat.pow_succ, Nat.mul_add, ← Nat.mul_assoc]; rw [Nat.mul_comm 256 (256 ^ a.length)]; omega
theorem wn_lt (a : List UInt8) : wn a < 256 ^ a.length := by
  induction a with
  | nil => simp [wn]
  | cons x a ih =>
    have := x.toNat_lt
    simp only [wn, List.length_cons, Nat.pow_succ]
    omega
theorem pow8 (i : Nat) : 256 ^ i = 2 ^ (8 * i) := by rw [Nat.pow_mul]
theorem wn8_lt (a : List UInt8) (h : a.length ≤ 8) : wn a < 18446744073709551616 := by
  have h1 := wn_lt a
  have h2 : 256 ^ a.length ≤ 256 ^ 8 := Nat.pow_le_pow_right (by omega) h
  omega
theorem byteAt_nat (m k : Nat) : (Enc.byteAt (m : Int) k).toNat = m / 256 ^ k % 256 := by
  have h := Enc.byteAt_toNat (m : Int) k
  rw [pow8]
  have e : ((m / 2 ^ (8 * k) % 256 : Nat) : Int) = (m : Int) / 2 ^ (8 * k) % 256 := by rw [Int.natCast_emod, Int.natCast_ediv, Int.natCast_pow]; rfl
  rw [← e] at h
  exact Int.ofNat_inj.1 h
theorem wn_upto_mod (m n : Nat) : wn (Enc.upto (m : Int) n) = m % 256 ^ n := by
  induction n with
  | zero => simp [Enc.upto, wn, Nat.mod_one]
  | succ n ih => rw [Enc.upto_succ, wn_append, ih, Enc.upto_length, Nat.pow_succ, Nat.mod_mul]; simp only [wn, byteAt_nat, Nat.mul_zero, Nat.add_zero]
theorem wn_upto (x : Int) (hx : U64 x) : ((wn (Enc.upto x 8) : Nat) : Int) = x := by
  obtain ⟨m, rfl⟩ : ∃ m : Nat, x = (m : Int) := ⟨x.toNat, by have := hx.1; omega⟩
  rw [wn_upto_mod, Nat.mod_eq_of_lt (by have := hx.2; omega)]
theorem wn_get : ∀ (l : List UInt8) (k : Nat) (h : k < l.length), wn l / 256 ^ k % 256 = l[k].toNat := by
  intro l
  induction l with
  | nil => intro k h; simp at h
  | cons b l ih =>
    intro k h
    have hb := b.toNat_lt
    cases k with
    | zero => simp only [wn, Nat.pow_zero, Nat.div_one, List.getElem_cons_zero]; omega
    | succ k =>
      rw [List.getElem_cons_succ, ← ih k (by simpa using h), Nat.pow_succ, Nat.mul_comm (256 ^ k) 256, ← Nat.div_div_eq_div_mul, wn, show (b.toNat + 256 * wn l) / 256 = wn l from by omega]
theorem upto_wn (l : List UInt8) (h : l.length = 8) : Enc.upto (wn l : Int) 8 = l := by
  apply List.ext_getElem
  · rw [Enc.upto_length, h]
  · intro k h1 h2
    have : (Enc.upto (wn l : Int) 8)[k] = Enc.byteAt (wn l : Int) k := by simp [Enc.upto]
    rw [this]
    exact UInt8.toNat_inj.1 (by rw [byteAt_nat, wn_get l k h2])

/-- The first n words of bytes. -/
def dec : Nat → List UInt8 → List Int
  | 0, _ => []
  | n + 1, l => (wn (l.take 8) : Int) :: dec n (l.drop 8)
theorem dec_length (n : Nat) : ∀ l, (dec n l).length = n := by
  induction n with
  | zero => intro l; rfl
  | succ n ih => intro l; simp [dec, ih]
theorem dec_u64 (n : Nat) : ∀ l, ∀ x ∈ dec n l, U64 x := by
  induction n with
  | zero => intro l x hx; cases hx
  | succ n ih =>
    intro l x hx
    rcases List.mem_cons.1 hx with rfl | hx
    · have := wn8_lt (l.take 8) (by rw [List.length_take]; omega)
      unfold U64; omega
    · exact ih _ x hx
theorem enc_dec (n : Nat) : ∀ l, 8 * n ≤ l.length → Enc.enc (dec n l) = l.take (8 * n) := by
  induction n with
  | zero => intro l _; simp [dec, Enc.enc]
  | succ n ih =>
    intro l hl
    rw [dec, enc_cons, ih _ (by rw [List.length_drop]; omega), upto_wn _ (by rw [List.length_take]; omega), show 8 * (n + 1) = 8 + 8 * n from by omega, List.take_add]
theorem dec_enc : ∀ (l : List Int) (b : List UInt8), (∀ x ∈ l, U64 x) → dec l.length (Enc.enc l ++ b) = l := by
  intro l
  induction l with
  | nil => intro b _; rfl
  | cons x l ih =>
    intro b h
    rw [List.length_cons, dec, enc_cons, List.append_assoc, List.take_left' (Enc.upto_length _ _), List.drop_left' (Enc.upto_length _ _), wn_upto x (h x (List.mem_cons_self ..)), ih b (fun y hy => h y (List.mem_cons_of_mem _ hy))]
theorem dec_take (n : Nat) : ∀ (l : List UInt8) (m : Nat), 8 * n ≤ m → dec n (l.take m) = dec n l := by
  induction n with
  | zero => intro l m _; rfl
  | succ n ih =>
    intro l m h
    rw [dec, dec, List.take_take, Nat.min_eq_left (by omega), List.drop_take, ih _ _ (by omega)]

theorem or_at (i a c : Nat) (ha : a < 2 ^ i) (hs : 2 ^ i * c + a < 18446744073709551616) : bits .or .u64 (a : Int) ((2 ^ i * c : Nat) : Int) = ((2 ^ i * c + a : Nat) : Int) := by
  rw [bits_or_u64_nat a (2 ^ i * c) (by omega) (by omega), Nat.or_comm, ← Nat.two_pow_add_eq_or_of_lt ha]
theorem or_at' (i a c : Nat) (ha : a < 2 ^ i) (hs : 2 ^ i * c + a < 18446744073709551616) : bits .or .u64 ((2 ^ i * c : Nat) : Int) (a : Int) = ((2 ^ i * c + a : Nat) : Int) := by
  rw [bits_or_u64_nat (2 ^ i * c) a (by omega) (by omega), ← Nat.two_pow_add_eq_or_of_lt ha]
theorem bt_nat (b : List UInt8) (i : Nat) (h : i < b.length) : bt ⟨b.toArray⟩ (i : Int) = (b[i].toNat : Int) := by
  have hs : ((i : Int)).toNat < (ByteArray.mk b.toArray).size := by show _ < b.toArray.size; simpa using h
  rw [← bt_at _ _ hs]
  rfl
theorem wn_take_succ (b : List UInt8) (i : Nat) (h : i < b.length) : wn (b.take (i + 1)) = 2 ^ (8 * i) * b[i].toNat + wn (b.take i) := by
  rw [List.take_succ_eq_append_getElem h, wn_append, List.length_take, Nat.min_eq_left (by omega), pow8]; simp [wn]; omega
theorem or_step (b : List UInt8) (i : Nat) (h : i < b.length) (h8 : i < 8) :
    Go.bits .or .u64 ((wn (b.take i) : Nat) : Int) (shl .u64 (IntKind.u64.wrap (bt ⟨b.toArray⟩ (i : Int))) (wrap64 (8 * (i : Int)))) = ((wn (b.take (i + 1)) : Nat) : Int) := by
  have hx := b[i].toNat_lt
  have h1 : wn (b.take i) < 2 ^ (8 * i) := by have := wn_lt (b.take i); rwa [List.length_take, Nat.min_eq_left (by omega), pow8] at this
  have h2 := wn_take_succ b i h
  have h3 := wn8_lt (b.take (i + 1)) (by rw [List.length_take]; omega)
  rw [h2] at h3
  rw [bt_nat b i h, wrapU_nat _ (by omega), show wrap64 (8 * (i : Int)) = ((8 * i : Nat) : Int) from by unfold wrap64; omega]
  have h4 : shl .u64 (b[i].toNat : Int) ((8 * i : Nat) : Int) = ((2 ^ (8 * i) * b[i].toNat : Nat) : Int) := by
    unfold shl
    rw [Int.toNat_natCast, show min (8 * i) IntKind.u64.bits = 8 * i from by simp [IntKind.bits]; omega,
      show ((b[i].toNat : Int) * 2 ^ (8 * i)) = ((2 ^ (8 * i) * b[i].toNat : Nat) : Int) from by push_cast; rw [Int.mul_comm], wrapU_nat _ (by omega)]
  rw [h4, or_at _ _ _ h1 h3, h2]

theorem sz (b : List UInt8) : (ByteArray.mk b.toArray).size = b.length := by show b.toArray.size = _; simp
theorem ba_toList (b : List UInt8) : (ByteArray.mk b.toArray).toList = b := by
  have key : ∀ (s : ByteArray) (d : Nat) (i : Nat) (r : List UInt8), s.size - i = d → ByteArray.toList.loop s i r = r.reverse ++ s.data.toList.drop i := by
    intro s d
    induction d with
    | zero =>
      intro i r h
      rw [ByteArray.toList.loop, if_neg (by omega), List.drop_of_length_le (by show s.data.toList.length ≤ i; have : s.size = s.data.size := rfl; simp; omega), List.append_nil]
    | succ d ih =>
      intro i r h
      have hi : i < s.data.toList.length := by have : s.size = s.data.size := rfl; simp; omega
      rw [ByteArray.toList.loop, if_pos (by omega), ih (i + 1) _ (by omega), List.drop_eq_getElem_cons hi]
      simp [ByteArray.get!]
      rw [getElem!_pos s.data i (by simpa using hi)]
  have := key ⟨b.toArray⟩ _ 0 [] rfl
  rw [ByteArray.toList, this]; simp
theorem ext_eq (b : List UInt8) (i j : Nat) : (ByteArray.mk b.toArray).extract i j = ⟨((b.drop i).take (j - i)).toArray⟩ := by
  apply ByteArray.ext; simp

theorem dwIn (b : List UInt8) (hb : 8 ≤ b.length) (acc : List Int) (ha : acc.length < 17592186044416) (r : List Int × Int)
    (h : Ev (fun k => codec_DecodeWords.l0 k ⟨(b.drop 8).toArray⟩ (acc ++ [(wn (b.take 8) : Int)])) r) (d : Nat) : ∀ i, 8 - i = d → i ≤ 8 → Ev (fun k => codec_DecodeWords.l1 k ⟨b.toArray⟩ acc (wn (b.take i) : Int) (i : Int)) r := by
  induction d with
  | zero =>
    intro i hd hi
    obtain rfl : i = 8 := by omega
    refine Ev.step (fun k => by
      simp only [codec_DecodeWords.l1]
      rw [if_neg (by omega), if_pos ha, if_pos (by rw [sz]; omega), ext_eq, sz, List.take_of_length_le (by rw [List.length_drop]; omega)]) ?_
    exact h
  | succ d ih =>
    intro i hd hi
    refine Ev.step (fun k => by
      simp only [codec_DecodeWords.l1]
      rw [if_pos (by omega), if_pos (by omega), if_pos (by rw [sz]; omega), if_pos (by unfold wrap64; omega), or_step b i (by omega) (by omega), show wrap64 ((i : Int) + 1) = ((i + 1 : Nat) : Int) from by unfold wrap64; omega]) ?_
    exact ih (i + 1) (by omega) (by omega)
theorem dwOut (n : Nat) : ∀ (b : List UInt8) (acc : List Int), b.length = 8 * n → acc.length + n < 17592186044416 → Ev (fun k => codec_DecodeWords.l0 k ⟨b.toArray⟩ acc) (acc ++ dec n b, 0) := by
  induction n with
  | zero =>
    intro b acc hb _
    obtain rfl : b = [] := List.length_eq_zero_iff.1 (by omega)
    refine Ev.step (fun k => by simp only [codec_DecodeWords.l0]; rw [if_pos (by rw [ba_toList])]) ?_
    rw [dec, List.append_nil]; exact Ev.now _
  | succ n ih =>
    intro b acc hb ha
    refine Ev.step (fun k => by simp only [codec_DecodeWords.l0]; rw [if_neg (by rw [ba_toList]; intro h; rw [h] at hb; simp at hb)]) ?_
    refine dwIn b (by omega) acc (by omega) _ ?_ 8 0 (by omega) (by omega)
    have := ih (b.drop 8) (acc ++ [(wn (b.take 8) : Int)]) (by rw [List.length_drop]; omega) (by simp; omega)
    rwa [List.append_assoc] at this
theorem decWords (n : Nat) (b : List UInt8) (hb : b.length = 8 * n) (hn : n < 17592186044416) : Ev (fun k => codec_DecodeWords.f k ⟨b.toArray⟩) (dec n b, 0) := by
  refine Ev.congr (fun k => by simp only [codec_DecodeWords.f]; rw [if_pos (by rw [sz]; omega)]) ?_
  exact dwOut n b [] hb (by simpa using hn)

theorem or_low (x : Nat) (c : UInt8) (h : 256 * x + c.toNat < 18446744073709551616) : Go.bits .or .u64 (IntKind.u64.wrap ((x : Int) * 256)) (IntKind.u64.wrap (c.toNat : Int)) = ((c.toNat + 256 * x : Nat) : Int) := by
  have hc := c.toNat_lt
  rw [wrapU_nat c.toNat (by omega), show (x : Int) * 256 = ((2 ^ 8 * x : Nat) : Int) from by rw [show (2 : Nat) ^ 8 = 256 from rfl]; omega, wrapU_nat _ (by omega), or_at' 8 c.toNat x (by omega) (by omega)]
  congr 1; omega
theorem rdIn (b : List UInt8) (hlen : b.length ≤ 9223372036854775000) (p : Nat) (hb : p + 8 ≤ b.length) (acc : List Int) (ha : acc.length < 17592186044416) (r : List Int × Int)
    (h : Ev (fun k => privityref03_DecodeWords.l0 k ⟨b.toArray⟩ (acc ++ [(wn ((b.drop p).take 8) : Int)]) ((p + 8 : Nat) : Int)) r) : ∀ i : Nat, i ≤ 8 → Ev (fun k => privityref03_DecodeWords.l1 k ⟨b.toArray⟩ acc (p : Int) (wn (((b.drop p).take 8).drop i) : Int) ((i : Int) - 1)) r := by
  intro i
  induction i with
  | zero =>
    intro _
    refine Ev.step (fun k => by
      simp only [privityref03_DecodeWords.l1]
      rw [if_neg (by omega), if_pos ha, show wrap64 ((p : Int) + 8) = ((p + 8 : Nat) : Int) from by unfold wrap64; omega, List.drop_zero]) ?_
    exact h
  | succ i ih =>
    intro hi
    have hlt : i < ((b.drop p).take 8).length := by rw [List.length_take, List.length_drop]; omega
    have e1 : wrap64 ((p : Int) + (((i + 1 : Nat) : Int) - 1)) = ((p + i : Nat) : Int) := by unfold wrap64; omega
    have e2 : ((b.drop p).take 8)[i] = b[p + i] := by simp
    have e3 : wn (((b.drop p).take 8).drop i) = b[p + i].toNat + 256 * wn (((b.drop p).take 8).drop (i + 1)) := by rw [List.drop_eq_getElem_cons hlt, wn, e2]
    have h3 := wn8_lt (((b.drop p).take 8).drop i) (by rw [List.length_drop, List.length_take]; omega)
    refine Ev.step (fun k => by
      simp only [privityref03_DecodeWords.l1]
      rw [if_pos (by omega), e1, if_pos (by omega), if_pos (by rw [sz]; omega), bt_nat b (p + i) (by omega), or_low _ _ (by omega), ← e3, show wrap64 (((i + 1 : Nat) : Int) - 1 - 1) = (i : Int) - 1 from by unfold wrap64; omega]) ?_
    exact ih (by omega)
theorem rdOut (b : List UInt8) (hlen : b.length ≤ 9223372036854775000) (n : Nat) : ∀ (p : Nat) (acc : List Int), b.length = p + 8 * n → acc.length + n < 17592186044416 → Ev (fun k => privityref03_DecodeWords.l0 k ⟨b.toArray⟩ acc (p : Int)) (acc ++ dec n (b.drop p), 0) := by
  induction n with
  | zero =>
    intro p acc hb _
    refine Ev.step (fun k => by simp only [privityref03_DecodeWords.l0]; rw [if_neg (by rw [sz]; omega)]) ?_
    rw [dec, List.append_nil]; exact Ev.now _
  | succ n ih =>
    intro p acc hb ha
    refine Ev.step (fun k => by simp only [privityref03_DecodeWords.l0]; rw [if_pos (by rw [sz]; omega)]) ?_
    have h := rdIn b hlen p (by omega) acc (by omega) (acc ++ dec (n + 1) (b.drop p), 0) (by
      have := ih (p + 8) (acc ++ [(wn ((b.drop p).take 8) : Int)]) (by omega) (by simp; omega)
      rw [List.append_assoc] at this
      rw [dec, List.drop_drop]; exact this) 8 (by omega)
    rw [List.drop_of_length_le (by rw [List.length_take]; omega)] at h
    exact h
theorem refDecWords (n : Nat) (b : List UInt8) (hb : b.length = 8 * n) (hn : n < 17592186044416) : Ev (fun k => privityref03_DecodeWords.f k ⟨b.toArray⟩) (dec n b, 0) := by
  refine Ev.congr (fun k => by simp only [privityref03_DecodeWords.f]; rw [if_pos (by rw [sz]; omega)]) ?_
  have := rdOut b (by omega) n 0 [] (by omega) (by simpa using hn)
  exact this

end Go.Proofs.YteagfdapkffncaaDoor.P
