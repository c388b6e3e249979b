/- Functions that the law reaches, as Lean functions. Conditions: those that each theorem names. -/
import Derived.Test.YthgiifakcgjlaaaPx0
import Derived.Test.YthgiifakcgjlaaaX2
import Derived.Test.YthgiifakcgjlaaaPx5
import Derived.Test.YthgiifakcgjlaaaPx8
import Derived.Test.YthgiifakcgjlaaaPx9
namespace Go.Proofs.Ythgiifakcgjlaaa.P
open Go.RowKit YthgiifakcgjlaaaX YthgiifakcgjlaaaW.PrintWords YthgiifakcgjlaaaW.PrintLast YthgiifakcgjlaaaW.PrintMore
attribute [local go_sem] max2_int min2_int max_two min_two max_three min_three max_four min_four
set_option linter.unusedVariables false
set_option linter.unusedSimpArgs false

def octet_Reader_Text.f (s0_0 : ByteArray) (s0_1 : Int) (a1 : Int) : Option (ByteArray × ByteArray × Int) := (octet_Reader_Num.f s0_0 s0_1 a1).bind fun bt307 => ((octet_Reader_take.f bt307.2.1 bt307.2.2 bt307.1).bind fun bt310 => (some (bt310.1, bt310.2.2.1, bt310.2.2.2)))
set_option maxHeartbeats 8000000 in
set_option maxRecDepth 100000 in
theorem octet_Reader_Text.calls (g : Nat) (s0_0 : ByteArray) (s0_1 : Int) (a1 : Int) (r1 : ByteArray) (r2 : ByteArray) (r3 : Int) (w0 w : World) (hI : IsS145 w0 w g s0_0 s0_1) (hB : Below w0.heap.size w0 w) (h : octet_Reader_Text.f s0_0 s0_1 a1 = some (r1, r2, r3)) :
  Calls Try.prog 76 #[.pointer (some ⟨g, 0, none⟩), .int .i64 a1] w fun e w' => e = .returned (.string r1) ∧ IsS145 w0 w' g r2 r3 ∧ Below w0.heap.size w0 w' ∧ KeepBut w w' g none := by
 have HI0 := Aside0.mk hI
 have HK := Aside0.mk (KeepBut.refl w g none)
 have HL := Aside0.mk hB.size
 clear hI
 have HW0 := Aside0.mk hB.size
 have HB := Aside0.mk hB
 clear hB
 have H : ((octet_Reader_Num.f s0_0 s0_1 a1).bind fun bt307 => ((octet_Reader_take.f bt307.2.1 bt307.2.2 bt307.1).bind fun bt310 => (some (bt310.1, bt310.2.2.1, bt310.2.2.2)))) = some (r1, r2, r3) := h
 clear h
 obtain ⟨⟨t307, t308, t309⟩, A3, H⟩ := bm2 H
 replace H : ((octet_Reader_take.f t308 t309 t307).bind fun bt310 => (some (bt310.1, bt310.2.2.1, bt310.2.2.2))) = some (r1, r2, r3) := H
 obtain ⟨⟨t310, t311, t312, t313⟩, A4, H⟩ := bm2 H
 replace H : (some (t310, t312, t313)) = some (r1, r2, r3) := H
 simp only [Option.some.injEq, Prod.mk.injEq] at H
 obtain ⟨rfl, rfl, rfl⟩ := H
 go_enter Try.func76, Try.ntmps76
 go_wp2_with (first | ((with_reducible refine gate_callee (f := 35) rfl ?_); refine goesL_ (some 11) rfl rfl Try.func35 (by kernel_rfl) rfl #[.pointer (some ⟨g, 0, none⟩), .int .i64 a1] rfl (by (try simp only [List.map_toArray, List.map_cons, List.map_nil]); first | done | rfl | (simp only [List.length_drop, List.length_take]; rfl)) ?_; (with_reducible refine (octet_Reader_Num.calls g s0_0 s0_1 a1 t307 t308 t309 w0 _ ?side1 ?side2 A3.out).mono ?_); (case side1 => repeat (first | (with_reducible first | exact HI0.out | apply ia | apply iN | apply iD | apply i0 | apply i1) | exact HI0.out)); (case side2 => repeat (first | (with_reducible first | exact HB.out | apply ba | apply bN | apply bD | refine bS ?_ (IsS145.ge HI0.out)) | exact HB.out)); rintro e w5 ⟨rfl, hi, hb, hk⟩; refine ⟨_, rfl, ?_⟩; have n0_ := Aside0.mk (KeepBut.trans (by repeat (first | (with_reducible first | exact HK.out | apply kS | apply kN | apply kD | apply kA) | exact HK.out)) hk (.inl rfl)); have n1_ := Aside0.mk (hb); have n2_ := Aside0.mk (hi); clear HK; clear HB; clear HI0; have HK := n0_; have HB := n1_; have HI0 := n2_; clear n0_ n1_ n2_; (try clear hb); (try clear hk hi)) | ((with_reducible refine gate_callee (f := 86) rfl ?_); refine goesL_ (some 12) rfl rfl Try.func86 (by kernel_rfl) rfl #[.pointer (some ⟨g, 0, none⟩), .int .i64 t307] rfl (by (try simp only [List.map_toArray, List.map_cons, List.map_nil]); first | done | rfl | (simp only [List.length_drop, List.length_take]; rfl)) ?_; (with_reducible refine (octet_Reader_take.calls g t308 t309 t307 t310 t311 t312 t313 w0 _ ?side1 ?side2 A4.out).mono ?_); (case side1 => repeat (first | (with_reducible first | exact HI0.out | apply ia | apply iN | apply iD | apply i0 | apply i1) | exact HI0.out)); (case side2 => repeat (first | (with_reducible first | exact HB.out | apply ba | apply bN | apply bD | refine bS ?_ (IsS145.ge HI0.out)) | exact HB.out)); rintro e w6 ⟨rfl, hi, hb, hk⟩; refine ⟨_, rfl, ?_⟩; have n0_ := Aside0.mk (KeepBut.trans (by repeat (first | (with_reducible first | exact HK.out | apply kS | apply kN | apply kD | apply kA) | exact HK.out)) hk (.inl rfl)); have n1_ := Aside0.mk (hb); have n2_ := Aside0.mk (hi); clear HK; clear HB; clear HI0; have HK := n0_; have HB := n1_; have HI0 := n2_; clear n0_ n1_ n2_; (try clear hb); (try clear hk hi)))
 go_ret
 exact ⟨er, by repeat (first | (with_reducible first | exact HI0.out | apply ia | apply iN | apply iD | apply i0 | apply i1) | exact HI0.out), by repeat (first | (with_reducible first | exact HB.out | apply ba | apply bN | apply bD | refine bS ?_ (IsS145.ge HI0.out)) | exact HB.out), by repeat (first | (with_reducible first | exact HK.out | apply kS | apply kN | apply kD | apply kA) | exact HK.out)⟩

end Go.Proofs.Ythgiifakcgjlaaa.P
