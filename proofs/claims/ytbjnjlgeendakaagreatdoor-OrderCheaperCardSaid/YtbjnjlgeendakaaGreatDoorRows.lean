/-
  NARROWER THAN 'FOR EVERY INPUT', by the rows' own cells (each row's printed sentence says how): OrderTruths: laid · OrderAsked: laid · OrderLetters: laid · OrderLies: laid · OrderPacks: laid · OrderCheaper: laid · OrderBuys: laid · OrderMore: laid · OrderStocks: laid · OrderPrints: laid · OrderTexts: laid · OrderSpoilt: laid · OrderCosts: laid · OrderRivals: laid · OrderTrue: laid · OrderMeanings: laid.
  DERIVED. THE GIVEN ROWS OF THIS SEAT. 16 by the template 'for every input the law returns true; each argument reads behind the call as it read before'; 0 by the template 'total and deterministic' (their statements: YtbjnjlgeendakaaGreatDoorTotals.lean).
  GIVEN WITH THE SEED: the statements are not yours to turn. If you find one false, say at which input.
  Laid BY PROGRAM, IN A SANDBOX (cutbox-rows.mjs): the forced cells as the released guide's own fill.sh prints them over the translation d021ad3054679f44… (all of the seat's roots in one cut). By AI agents, Wed Nov 11 2026. No macro, syntax, notation, axiom, sorry.
-/
import Derived.Test.YtbjnjlgeendakaaGreatDoorChecked
import GoSem.PinnedTables
import GoSem.Claim
import GoSem.ClaimJoined
import GoSem.ClaimMapViews
import Derived.JoinedTies
import Derived.KernelRfl
namespace Go.Proofs.YtbjnjlgeendakaaGreatDoor
/- THE CELL 'sum', in the pinned program and in every row, IS THE sha256 OF THE DUMP (.gsa) THAT YtbjnjlgeendakaaGreatDoorProg.lean LOADS. Nothing in Lean hashes anything: it is a label: what it is worth is what the hold of that sum in a sandbox is worth. -/
noncomputable def Tryz.pinned : Pinned := { name := "ytbjnjlgeendakaagreatdoor", sum := "d021ad3054679f4479c79b5a2bbf7c06bd5073b76bf1905ef8cb4f4eb31bdf15", checked := Tryz.checked }
namespace Rows
def none {H : Type} : Left H := { results := [], args := [] }

/- WHAT THE LISTED PACKAGE-LEVEL VARIABLES READ AS WHEN THE CALL BEGINS. Each datum BY PROGRAM (the guide's laid-datum.mjs) off the statement by which the dump's own 'gosem.cut.vars' lays the variable. In a bare row this is a premise. The card (YtbjnjlgeendakaaGreatDoorCards.lean) ties it to the program's text. -/
def laid_math_bits_deBruijn32tab {H : Type} : DataW H := .agg [.lit (.int .u8 0), .lit (.int .u8 1), .lit (.int .u8 28), .lit (.int .u8 2), .lit (.int .u8 29), .lit (.int .u8 14), .lit (.int .u8 24), .lit (.int .u8 3), .lit (.int .u8 30), .lit (.int .u8 22), .lit (.int .u8 20), .lit (.int .u8 15), .lit (.int .u8 25), .lit (.int .u8 17), .lit (.int .u8 4), .lit (.int .u8 8), .lit (.int .u8 31), .lit (.int .u8 27), .lit (.int .u8 13), .lit (.int .u8 23), .lit (.int .u8 21), .lit (.int .u8 19), .lit (.int .u8 16), .lit (.int .u8 7), .lit (.int .u8 26), .lit (.int .u8 12), .lit (.int .u8 18), .lit (.int .u8 6), .lit (.int .u8 11), .lit (.int .u8 5), .lit (.int .u8 10), .lit (.int .u8 9)]
def laid_math_bits_deBruijn64tab {H : Type} : DataW H := .agg [.lit (.int .u8 0), .lit (.int .u8 1), .lit (.int .u8 56), .lit (.int .u8 2), .lit (.int .u8 57), .lit (.int .u8 49), .lit (.int .u8 28), .lit (.int .u8 3), .lit (.int .u8 61), .lit (.int .u8 58), .lit (.int .u8 42), .lit (.int .u8 50), .lit (.int .u8 38), .lit (.int .u8 29), .lit (.int .u8 17), .lit (.int .u8 4), .lit (.int .u8 62), .lit (.int .u8 47), .lit (.int .u8 59), .lit (.int .u8 36), .lit (.int .u8 45), .lit (.int .u8 43), .lit (.int .u8 51), .lit (.int .u8 22), .lit (.int .u8 53), .lit (.int .u8 39), .lit (.int .u8 33), .lit (.int .u8 30), .lit (.int .u8 24), .lit (.int .u8 18), .lit (.int .u8 12), .lit (.int .u8 5), .lit (.int .u8 63), .lit (.int .u8 55), .lit (.int .u8 48), .lit (.int .u8 27), .lit (.int .u8 60), .lit (.int .u8 41), .lit (.int .u8 37), .lit (.int .u8 16), .lit (.int .u8 46), .lit (.int .u8 35), .lit (.int .u8 44), .lit (.int .u8 21), .lit (.int .u8 52), .lit (.int .u8 32), .lit (.int .u8 23), .lit (.int .u8 11), .lit (.int .u8 54), .lit (.int .u8 26), .lit (.int .u8 40), .lit (.int .u8 15), .lit (.int .u8 34), .lit (.int .u8 20), .lit (.int .u8 31), .lit (.int .u8 10), .lit (.int .u8 25), .lit (.int .u8 14), .lit (.int .u8 19), .lit (.int .u8 9), .lit (.int .u8 13), .lit (.int .u8 8), .lit (.int .u8 7), .lit (.int .u8 6)]
def laid_internal_strconv_uint64pow10 {H : Type} : DataW H := .agg [.lit (.int .u64 1), .lit (.int .u64 10), .lit (.int .u64 100), .lit (.int .u64 1000), .lit (.int .u64 10000), .lit (.int .u64 100000), .lit (.int .u64 1000000), .lit (.int .u64 10000000), .lit (.int .u64 100000000), .lit (.int .u64 1000000000), .lit (.int .u64 10000000000), .lit (.int .u64 100000000000), .lit (.int .u64 1000000000000), .lit (.int .u64 10000000000000), .lit (.int .u64 100000000000000), .lit (.int .u64 1000000000000000), .lit (.int .u64 10000000000000000), .lit (.int .u64 100000000000000000), .lit (.int .u64 1000000000000000000), .lit (.int .u64 10000000000000000000)]
def laid_unicode_utf8_acceptRanges {H : Type} : DataW H := .agg [.agg [.lit (.int .u8 128), .lit (.int .u8 191)], .agg [.lit (.int .u8 160), .lit (.int .u8 191)], .agg [.lit (.int .u8 128), .lit (.int .u8 159)], .agg [.lit (.int .u8 144), .lit (.int .u8 191)], .agg [.lit (.int .u8 128), .lit (.int .u8 143)], .agg [.lit (.int .u8 0), .lit (.int .u8 0)], .agg [.lit (.int .u8 0), .lit (.int .u8 0)], .agg [.lit (.int .u8 0), .lit (.int .u8 0)], .agg [.lit (.int .u8 0), .lit (.int .u8 0)], .agg [.lit (.int .u8 0), .lit (.int .u8 0)], .agg [.lit (.int .u8 0), .lit (.int .u8 0)], .agg [.lit (.int .u8 0), .lit (.int .u8 0)], .agg [.lit (.int .u8 0), .lit (.int .u8 0)], .agg [.lit (.int .u8 0), .lit (.int .u8 0)], .agg [.lit (.int .u8 0), .lit (.int .u8 0)], .agg [.lit (.int .u8 0), .lit (.int .u8 0)]]
/-- One of Go's own tables, pinned by name: the form's constant. -/
def laid_unicode_utf8_first : DataW Unit := Go.Pinned.utf8First

/-- 'nacrelaw09.OrderTruths': WHATEVER THE INPUT: true; the input reads as it did. -/
def orderTruthsSpec : ChangeSpec := { name := "orderTruths", fn := fun _ => fun
  | [d] => { results := [.lit (.bool true)], args := [d] }
  | _ => none }
def orderTruthsRow : OpenClaim := { program := "ytbjnjlgeendakaagreatdoor", sum := "d021ad3054679f4479c79b5a2bbf7c06bd5073b76bf1905ef8cb4f4eb31bdf15", func := "nacre/nacrelaw09.OrderTruths", spec := "orderTruths", inPlace := ["internal/bytealg.CountString", "internal/bytealg.IndexByteString", "internal/bytealg.IndexString"], unfollowed := true, recurses := true, named := ["unicode/utf8.first", "unicode/utf8.acceptRanges", "internal/bytealg.MaxLen", "internal/strconv.uint64pow10", "math/bits.deBruijn32tab", "math/bits.deBruijn64tab"], apart := false, laid := [("math/bits.deBruijn32tab", laid_math_bits_deBruijn32tab), ("math/bits.deBruijn64tab", laid_math_bits_deBruijn64tab), ("internal/strconv.uint64pow10", laid_internal_strconv_uint64pow10), ("unicode/utf8.acceptRanges", laid_unicode_utf8_acceptRanges), ("unicode/utf8.first", laid_unicode_utf8_first)] }
def OrderTruthsSaid : Prop := orderTruthsRow.holds Tryz.pinned (OpenSpec.ofChange orderTruthsSpec)

/-- ITS FALSE NEIGHBOUR: 'it returns false'. Refute it at one input. -/
def orderTruthsWrong : ChangeSpec := { name := "orderTruths", fn := fun _ => fun
  | [d] => { results := [.lit (.bool false)], args := [d] }
  | _ => none }
def OrderTruthsWrongFalsely : Prop := orderTruthsRow.holds Tryz.pinned (OpenSpec.ofChange orderTruthsWrong)

/-- 'nacrelaw09.OrderAsked': WHATEVER THE INPUT: true; the input reads as it did. -/
def orderAskedSpec : ChangeSpec := { name := "orderAsked", fn := fun _ => fun
  | [d1, d2, d3] => { results := [.lit (.bool true)], args := [d1, d2, d3] }
  | _ => none }
def orderAskedRow : OpenClaim := { program := "ytbjnjlgeendakaagreatdoor", sum := "d021ad3054679f4479c79b5a2bbf7c06bd5073b76bf1905ef8cb4f4eb31bdf15", func := "nacre/nacrelaw09.OrderAsked", spec := "orderAsked", inPlace := ["internal/bytealg.CountString", "internal/bytealg.IndexByteString", "internal/bytealg.IndexString"], unfollowed := true, recurses := true, named := ["unicode/utf8.first", "unicode/utf8.acceptRanges", "internal/bytealg.MaxLen", "internal/strconv.uint64pow10", "math/bits.deBruijn32tab", "math/bits.deBruijn64tab"], apart := false, laid := [("math/bits.deBruijn32tab", laid_math_bits_deBruijn32tab), ("math/bits.deBruijn64tab", laid_math_bits_deBruijn64tab), ("internal/strconv.uint64pow10", laid_internal_strconv_uint64pow10), ("unicode/utf8.acceptRanges", laid_unicode_utf8_acceptRanges), ("unicode/utf8.first", laid_unicode_utf8_first)] }
def OrderAskedSaid : Prop := orderAskedRow.holds Tryz.pinned (OpenSpec.ofChange orderAskedSpec)

/-- ITS FALSE NEIGHBOUR: 'it returns false'. Refute it at one input. -/
def orderAskedWrong : ChangeSpec := { name := "orderAsked", fn := fun _ => fun
  | [d1, d2, d3] => { results := [.lit (.bool false)], args := [d1, d2, d3] }
  | _ => none }
def OrderAskedWrongFalsely : Prop := orderAskedRow.holds Tryz.pinned (OpenSpec.ofChange orderAskedWrong)

/-- 'nacrelaw09.OrderLetters': WHATEVER THE INPUT: true; the input reads as it did. -/
def orderLettersSpec : ChangeSpec := { name := "orderLetters", fn := fun _ => fun
  | [d1, d2, d3, d4] => { results := [.lit (.bool true)], args := [d1, d2, d3, d4] }
  | _ => none }
def orderLettersRow : OpenClaim := { program := "ytbjnjlgeendakaagreatdoor", sum := "d021ad3054679f4479c79b5a2bbf7c06bd5073b76bf1905ef8cb4f4eb31bdf15", func := "nacre/nacrelaw09.OrderLetters", spec := "orderLetters", inPlace := ["internal/bytealg.CountString", "internal/bytealg.IndexByteString", "internal/bytealg.IndexString"], unfollowed := true, recurses := true, named := ["unicode/utf8.first", "unicode/utf8.acceptRanges", "internal/bytealg.MaxLen", "internal/strconv.uint64pow10", "math/bits.deBruijn32tab", "math/bits.deBruijn64tab"], apart := false, laid := [("math/bits.deBruijn32tab", laid_math_bits_deBruijn32tab), ("math/bits.deBruijn64tab", laid_math_bits_deBruijn64tab), ("internal/strconv.uint64pow10", laid_internal_strconv_uint64pow10), ("unicode/utf8.acceptRanges", laid_unicode_utf8_acceptRanges), ("unicode/utf8.first", laid_unicode_utf8_first)] }
def OrderLettersSaid : Prop := orderLettersRow.holds Tryz.pinned (OpenSpec.ofChange orderLettersSpec)

/-- ITS FALSE NEIGHBOUR: 'it returns false'. Refute it at one input. -/
def orderLettersWrong : ChangeSpec := { name := "orderLetters", fn := fun _ => fun
  | [d1, d2, d3, d4] => { results := [.lit (.bool false)], args := [d1, d2, d3, d4] }
  | _ => none }
def OrderLettersWrongFalsely : Prop := orderLettersRow.holds Tryz.pinned (OpenSpec.ofChange orderLettersWrong)

/-- 'nacrelaw09.OrderLies': WHATEVER THE INPUT: true; the input reads as it did. -/
def orderLiesSpec : ChangeSpec := { name := "orderLies", fn := fun _ => fun
  | [d1, d2, d3] => { results := [.lit (.bool true)], args := [d1, d2, d3] }
  | _ => none }
def orderLiesRow : OpenClaim := { program := "ytbjnjlgeendakaagreatdoor", sum := "d021ad3054679f4479c79b5a2bbf7c06bd5073b76bf1905ef8cb4f4eb31bdf15", func := "nacre/nacrelaw09.OrderLies", spec := "orderLies", inPlace := ["internal/bytealg.CountString", "internal/bytealg.IndexByteString", "internal/bytealg.IndexString"], unfollowed := true, recurses := true, named := ["unicode/utf8.first", "unicode/utf8.acceptRanges", "internal/bytealg.MaxLen", "internal/strconv.uint64pow10", "math/bits.deBruijn32tab", "math/bits.deBruijn64tab"], apart := false, laid := [("math/bits.deBruijn32tab", laid_math_bits_deBruijn32tab), ("math/bits.deBruijn64tab", laid_math_bits_deBruijn64tab), ("internal/strconv.uint64pow10", laid_internal_strconv_uint64pow10), ("unicode/utf8.acceptRanges", laid_unicode_utf8_acceptRanges), ("unicode/utf8.first", laid_unicode_utf8_first)] }
def OrderLiesSaid : Prop := orderLiesRow.holds Tryz.pinned (OpenSpec.ofChange orderLiesSpec)

/-- ITS FALSE NEIGHBOUR: 'it returns false'. Refute it at one input. -/
def orderLiesWrong : ChangeSpec := { name := "orderLies", fn := fun _ => fun
  | [d1, d2, d3] => { results := [.lit (.bool false)], args := [d1, d2, d3] }
  | _ => none }
def OrderLiesWrongFalsely : Prop := orderLiesRow.holds Tryz.pinned (OpenSpec.ofChange orderLiesWrong)

/-- 'nacrelaw09.OrderPacks': WHATEVER THE INPUT: true; the input reads as it did. -/
def orderPacksSpec : ChangeSpec := { name := "orderPacks", fn := fun _ => fun
  | [d1, d2] => { results := [.lit (.bool true)], args := [d1, d2] }
  | _ => none }
def orderPacksRow : OpenClaim := { program := "ytbjnjlgeendakaagreatdoor", sum := "d021ad3054679f4479c79b5a2bbf7c06bd5073b76bf1905ef8cb4f4eb31bdf15", func := "nacre/nacrelaw09.OrderPacks", spec := "orderPacks", inPlace := ["internal/bytealg.CountString", "internal/bytealg.IndexByteString", "internal/bytealg.IndexString"], unfollowed := true, recurses := true, named := ["unicode/utf8.first", "unicode/utf8.acceptRanges", "internal/bytealg.MaxLen", "internal/strconv.uint64pow10", "math/bits.deBruijn32tab", "math/bits.deBruijn64tab"], apart := false, laid := [("math/bits.deBruijn32tab", laid_math_bits_deBruijn32tab), ("math/bits.deBruijn64tab", laid_math_bits_deBruijn64tab), ("internal/strconv.uint64pow10", laid_internal_strconv_uint64pow10), ("unicode/utf8.acceptRanges", laid_unicode_utf8_acceptRanges), ("unicode/utf8.first", laid_unicode_utf8_first)] }
def OrderPacksSaid : Prop := orderPacksRow.holds Tryz.pinned (OpenSpec.ofChange orderPacksSpec)

/-- ITS FALSE NEIGHBOUR: 'it returns false'. Refute it at one input. -/
def orderPacksWrong : ChangeSpec := { name := "orderPacks", fn := fun _ => fun
  | [d1, d2] => { results := [.lit (.bool false)], args := [d1, d2] }
  | _ => none }
def OrderPacksWrongFalsely : Prop := orderPacksRow.holds Tryz.pinned (OpenSpec.ofChange orderPacksWrong)

/-- 'nacrelaw09.OrderCheaper': WHATEVER THE INPUT: true; the input reads as it did. -/
def orderCheaperSpec : ChangeSpec := { name := "orderCheaper", fn := fun _ => fun
  | [d1, d2, d3] => { results := [.lit (.bool true)], args := [d1, d2, d3] }
  | _ => none }
def orderCheaperRow : OpenClaim := { program := "ytbjnjlgeendakaagreatdoor", sum := "d021ad3054679f4479c79b5a2bbf7c06bd5073b76bf1905ef8cb4f4eb31bdf15", func := "nacre/nacrelaw09.OrderCheaper", spec := "orderCheaper", inPlace := ["internal/bytealg.CountString", "internal/bytealg.IndexByteString", "internal/bytealg.IndexString"], unfollowed := true, recurses := true, named := ["unicode/utf8.first", "unicode/utf8.acceptRanges", "internal/bytealg.MaxLen", "internal/strconv.uint64pow10", "math/bits.deBruijn32tab", "math/bits.deBruijn64tab"], apart := false, laid := [("math/bits.deBruijn32tab", laid_math_bits_deBruijn32tab), ("math/bits.deBruijn64tab", laid_math_bits_deBruijn64tab), ("internal/strconv.uint64pow10", laid_internal_strconv_uint64pow10), ("unicode/utf8.acceptRanges", laid_unicode_utf8_acceptRanges), ("unicode/utf8.first", laid_unicode_utf8_first)] }
def OrderCheaperSaid : Prop := orderCheaperRow.holds Tryz.pinned (OpenSpec.ofChange orderCheaperSpec)

/-- ITS FALSE NEIGHBOUR: 'it returns false'. Refute it at one input. -/
def orderCheaperWrong : ChangeSpec := { name := "orderCheaper", fn := fun _ => fun
  | [d1, d2, d3] => { results := [.lit (.bool false)], args := [d1, d2, d3] }
  | _ => none }
def OrderCheaperWrongFalsely : Prop := orderCheaperRow.holds Tryz.pinned (OpenSpec.ofChange orderCheaperWrong)

/-- 'nacrelaw09.OrderBuys': WHATEVER THE INPUT: true; the input reads as it did. -/
def orderBuysSpec : ChangeSpec := { name := "orderBuys", fn := fun _ => fun
  | [d1, d2] => { results := [.lit (.bool true)], args := [d1, d2] }
  | _ => none }
def orderBuysRow : OpenClaim := { program := "ytbjnjlgeendakaagreatdoor", sum := "d021ad3054679f4479c79b5a2bbf7c06bd5073b76bf1905ef8cb4f4eb31bdf15", func := "nacre/nacrelaw09.OrderBuys", spec := "orderBuys", inPlace := ["internal/bytealg.CountString", "internal/bytealg.IndexByteString", "internal/bytealg.IndexString"], unfollowed := true, recurses := true, named := ["unicode/utf8.first", "unicode/utf8.acceptRanges", "internal/bytealg.MaxLen", "internal/strconv.uint64pow10", "math/bits.deBruijn32tab", "math/bits.deBruijn64tab"], apart := false, laid := [("math/bits.deBruijn32tab", laid_math_bits_deBruijn32tab), ("math/bits.deBruijn64tab", laid_math_bits_deBruijn64tab), ("internal/strconv.uint64pow10", laid_internal_strconv_uint64pow10), ("unicode/utf8.acceptRanges", laid_unicode_utf8_acceptRanges), ("unicode/utf8.first", laid_unicode_utf8_first)] }
def OrderBuysSaid : Prop := orderBuysRow.holds Tryz.pinned (OpenSpec.ofChange orderBuysSpec)

/-- ITS FALSE NEIGHBOUR: 'it returns false'. Refute it at one input. -/
def orderBuysWrong : ChangeSpec := { name := "orderBuys", fn := fun _ => fun
  | [d1, d2] => { results := [.lit (.bool false)], args := [d1, d2] }
  | _ => none }
def OrderBuysWrongFalsely : Prop := orderBuysRow.holds Tryz.pinned (OpenSpec.ofChange orderBuysWrong)

/-- 'nacrelaw09.OrderMore': WHATEVER THE INPUT: true; the input reads as it did. -/
def orderMoreSpec : ChangeSpec := { name := "orderMore", fn := fun _ => fun
  | [d1, d2, d3, d4, d5] => { results := [.lit (.bool true)], args := [d1, d2, d3, d4, d5] }
  | _ => none }
def orderMoreRow : OpenClaim := { program := "ytbjnjlgeendakaagreatdoor", sum := "d021ad3054679f4479c79b5a2bbf7c06bd5073b76bf1905ef8cb4f4eb31bdf15", func := "nacre/nacrelaw09.OrderMore", spec := "orderMore", inPlace := ["internal/bytealg.CountString", "internal/bytealg.IndexByteString", "internal/bytealg.IndexString"], unfollowed := true, recurses := true, named := ["unicode/utf8.first", "unicode/utf8.acceptRanges", "internal/bytealg.MaxLen", "internal/strconv.uint64pow10", "math/bits.deBruijn32tab", "math/bits.deBruijn64tab"], apart := false, laid := [("math/bits.deBruijn32tab", laid_math_bits_deBruijn32tab), ("math/bits.deBruijn64tab", laid_math_bits_deBruijn64tab), ("internal/strconv.uint64pow10", laid_internal_strconv_uint64pow10), ("unicode/utf8.acceptRanges", laid_unicode_utf8_acceptRanges), ("unicode/utf8.first", laid_unicode_utf8_first)] }
def OrderMoreSaid : Prop := orderMoreRow.holds Tryz.pinned (OpenSpec.ofChange orderMoreSpec)

/-- ITS FALSE NEIGHBOUR: 'it returns false'. Refute it at one input. -/
def orderMoreWrong : ChangeSpec := { name := "orderMore", fn := fun _ => fun
  | [d1, d2, d3, d4, d5] => { results := [.lit (.bool false)], args := [d1, d2, d3, d4, d5] }
  | _ => none }
def OrderMoreWrongFalsely : Prop := orderMoreRow.holds Tryz.pinned (OpenSpec.ofChange orderMoreWrong)

/-- 'nacrelaw09.OrderStocks': WHATEVER THE INPUT: true; the input reads as it did. -/
def orderStocksSpec : ChangeSpec := { name := "orderStocks", fn := fun _ => fun
  | [d1, d2, d3, d4, d5, d6] => { results := [.lit (.bool true)], args := [d1, d2, d3, d4, d5, d6] }
  | _ => none }
def orderStocksRow : OpenClaim := { program := "ytbjnjlgeendakaagreatdoor", sum := "d021ad3054679f4479c79b5a2bbf7c06bd5073b76bf1905ef8cb4f4eb31bdf15", func := "nacre/nacrelaw09.OrderStocks", spec := "orderStocks", inPlace := ["internal/bytealg.CountString", "internal/bytealg.IndexByteString", "internal/bytealg.IndexString"], unfollowed := true, recurses := true, named := ["unicode/utf8.first", "unicode/utf8.acceptRanges", "internal/bytealg.MaxLen", "internal/strconv.uint64pow10", "math/bits.deBruijn32tab", "math/bits.deBruijn64tab"], apart := false, laid := [("math/bits.deBruijn32tab", laid_math_bits_deBruijn32tab), ("math/bits.deBruijn64tab", laid_math_bits_deBruijn64tab), ("internal/strconv.uint64pow10", laid_internal_strconv_uint64pow10), ("unicode/utf8.acceptRanges", laid_unicode_utf8_acceptRanges), ("unicode/utf8.first", laid_unicode_utf8_first)] }
def OrderStocksSaid : Prop := orderStocksRow.holds Tryz.pinned (OpenSpec.ofChange orderStocksSpec)

/-- ITS FALSE NEIGHBOUR: 'it returns false'. Refute it at one input. -/
def orderStocksWrong : ChangeSpec := { name := "orderStocks", fn := fun _ => fun
  | [d1, d2, d3, d4, d5, d6] => { results := [.lit (.bool false)], args := [d1, d2, d3, d4, d5, d6] }
  | _ => none }
def OrderStocksWrongFalsely : Prop := orderStocksRow.holds Tryz.pinned (OpenSpec.ofChange orderStocksWrong)

/-- 'nacrelaw09.OrderPrints': WHATEVER THE INPUT: true; the input reads as it did. -/
def orderPrintsSpec : ChangeSpec := { name := "orderPrints", fn := fun _ => fun
  | [d] => { results := [.lit (.bool true)], args := [d] }
  | _ => none }
def orderPrintsRow : OpenClaim := { program := "ytbjnjlgeendakaagreatdoor", sum := "d021ad3054679f4479c79b5a2bbf7c06bd5073b76bf1905ef8cb4f4eb31bdf15", func := "nacre/nacrelaw09.OrderPrints", spec := "orderPrints", inPlace := ["internal/bytealg.CountString", "internal/bytealg.IndexByteString", "internal/bytealg.IndexString"], unfollowed := true, recurses := true, named := ["unicode/utf8.first", "unicode/utf8.acceptRanges", "internal/bytealg.MaxLen", "internal/strconv.uint64pow10", "math/bits.deBruijn32tab", "math/bits.deBruijn64tab"], apart := false, laid := [("math/bits.deBruijn32tab", laid_math_bits_deBruijn32tab), ("math/bits.deBruijn64tab", laid_math_bits_deBruijn64tab), ("internal/strconv.uint64pow10", laid_internal_strconv_uint64pow10), ("unicode/utf8.acceptRanges", laid_unicode_utf8_acceptRanges), ("unicode/utf8.first", laid_unicode_utf8_first)] }
def OrderPrintsSaid : Prop := orderPrintsRow.holds Tryz.pinned (OpenSpec.ofChange orderPrintsSpec)

/-- ITS FALSE NEIGHBOUR: 'it returns false'. Refute it at one input. -/
def orderPrintsWrong : ChangeSpec := { name := "orderPrints", fn := fun _ => fun
  | [d] => { results := [.lit (.bool false)], args := [d] }
  | _ => none }
def OrderPrintsWrongFalsely : Prop := orderPrintsRow.holds Tryz.pinned (OpenSpec.ofChange orderPrintsWrong)

/-- 'nacrelaw09.OrderTexts': WHATEVER THE INPUT: true; the input reads as it did. -/
def orderTextsSpec : ChangeSpec := { name := "orderTexts", fn := fun _ => fun
  | [d] => { results := [.lit (.bool true)], args := [d] }
  | _ => none }
def orderTextsRow : OpenClaim := { program := "ytbjnjlgeendakaagreatdoor", sum := "d021ad3054679f4479c79b5a2bbf7c06bd5073b76bf1905ef8cb4f4eb31bdf15", func := "nacre/nacrelaw09.OrderTexts", spec := "orderTexts", inPlace := ["internal/bytealg.CountString", "internal/bytealg.IndexByteString", "internal/bytealg.IndexString"], unfollowed := true, recurses := true, named := ["unicode/utf8.first", "unicode/utf8.acceptRanges", "internal/bytealg.MaxLen", "internal/strconv.uint64pow10", "math/bits.deBruijn32tab", "math/bits.deBruijn64tab"], apart := false, laid := [("math/bits.deBruijn32tab", laid_math_bits_deBruijn32tab), ("math/bits.deBruijn64tab", laid_math_bits_deBruijn64tab), ("internal/strconv.uint64pow10", laid_internal_strconv_uint64pow10), ("unicode/utf8.acceptRanges", laid_unicode_utf8_acceptRanges), ("unicode/utf8.first", laid_unicode_utf8_first)] }
def OrderTextsSaid : Prop := orderTextsRow.holds Tryz.pinned (OpenSpec.ofChange orderTextsSpec)

/-- ITS FALSE NEIGHBOUR: 'it returns false'. Refute it at one input. -/
def orderTextsWrong : ChangeSpec := { name := "orderTexts", fn := fun _ => fun
  | [d] => { results := [.lit (.bool false)], args := [d] }
  | _ => none }
def OrderTextsWrongFalsely : Prop := orderTextsRow.holds Tryz.pinned (OpenSpec.ofChange orderTextsWrong)

/-- 'nacrelaw09.OrderSpoilt': WHATEVER THE INPUT: true; the input reads as it did. -/
def orderSpoiltSpec : ChangeSpec := { name := "orderSpoilt", fn := fun _ => fun
  | [d1, d2, d3] => { results := [.lit (.bool true)], args := [d1, d2, d3] }
  | _ => none }
def orderSpoiltRow : OpenClaim := { program := "ytbjnjlgeendakaagreatdoor", sum := "d021ad3054679f4479c79b5a2bbf7c06bd5073b76bf1905ef8cb4f4eb31bdf15", func := "nacre/nacrelaw09.OrderSpoilt", spec := "orderSpoilt", inPlace := ["internal/bytealg.CountString", "internal/bytealg.IndexByteString", "internal/bytealg.IndexString"], unfollowed := true, recurses := true, named := ["unicode/utf8.first", "unicode/utf8.acceptRanges", "internal/bytealg.MaxLen", "internal/strconv.uint64pow10", "math/bits.deBruijn32tab", "math/bits.deBruijn64tab"], apart := false, laid := [("math/bits.deBruijn32tab", laid_math_bits_deBruijn32tab), ("math/bits.deBruijn64tab", laid_math_bits_deBruijn64tab), ("internal/strconv.uint64pow10", laid_internal_strconv_uint64pow10), ("unicode/utf8.acceptRanges", laid_unicode_utf8_acceptRanges), ("unicode/utf8.first", laid_unicode_utf8_first)] }
def OrderSpoiltSaid : Prop := orderSpoiltRow.holds Tryz.pinned (OpenSpec.ofChange orderSpoiltSpec)

/-- ITS FALSE NEIGHBOUR: 'it returns false'. Refute it at one input. -/
def orderSpoiltWrong : ChangeSpec := { name := "orderSpoilt", fn := fun _ => fun
  | [d1, d2, d3] => { results := [.lit (.bool false)], args := [d1, d2, d3] }
  | _ => none }
def OrderSpoiltWrongFalsely : Prop := orderSpoiltRow.holds Tryz.pinned (OpenSpec.ofChange orderSpoiltWrong)

/-- 'nacrelaw09.OrderCosts': WHATEVER THE INPUT: true; the input reads as it did. -/
def orderCostsSpec : ChangeSpec := { name := "orderCosts", fn := fun _ => fun
  | [d1, d2, d3] => { results := [.lit (.bool true)], args := [d1, d2, d3] }
  | _ => none }
def orderCostsRow : OpenClaim := { program := "ytbjnjlgeendakaagreatdoor", sum := "d021ad3054679f4479c79b5a2bbf7c06bd5073b76bf1905ef8cb4f4eb31bdf15", func := "nacre/nacrelaw09.OrderCosts", spec := "orderCosts", inPlace := ["internal/bytealg.CountString", "internal/bytealg.IndexByteString", "internal/bytealg.IndexString"], unfollowed := true, recurses := true, named := ["unicode/utf8.first", "unicode/utf8.acceptRanges", "internal/bytealg.MaxLen", "internal/strconv.uint64pow10", "math/bits.deBruijn32tab", "math/bits.deBruijn64tab"], apart := false, laid := [("math/bits.deBruijn32tab", laid_math_bits_deBruijn32tab), ("math/bits.deBruijn64tab", laid_math_bits_deBruijn64tab), ("internal/strconv.uint64pow10", laid_internal_strconv_uint64pow10), ("unicode/utf8.acceptRanges", laid_unicode_utf8_acceptRanges), ("unicode/utf8.first", laid_unicode_utf8_first)] }
def OrderCostsSaid : Prop := orderCostsRow.holds Tryz.pinned (OpenSpec.ofChange orderCostsSpec)

/-- ITS FALSE NEIGHBOUR: 'it returns false'. Refute it at one input. -/
def orderCostsWrong : ChangeSpec := { name := "orderCosts", fn := fun _ => fun
  | [d1, d2, d3] => { results := [.lit (.bool false)], args := [d1, d2, d3] }
  | _ => none }
def OrderCostsWrongFalsely : Prop := orderCostsRow.holds Tryz.pinned (OpenSpec.ofChange orderCostsWrong)

/-- 'nacrelaw09.OrderRivals': WHATEVER THE INPUT: true; the input reads as it did. -/
def orderRivalsSpec : ChangeSpec := { name := "orderRivals", fn := fun _ => fun
  | [d1, d2, d3] => { results := [.lit (.bool true)], args := [d1, d2, d3] }
  | _ => none }
def orderRivalsRow : OpenClaim := { program := "ytbjnjlgeendakaagreatdoor", sum := "d021ad3054679f4479c79b5a2bbf7c06bd5073b76bf1905ef8cb4f4eb31bdf15", func := "nacre/nacrelaw09.OrderRivals", spec := "orderRivals", inPlace := ["internal/bytealg.CountString", "internal/bytealg.IndexByteString", "internal/bytealg.IndexString"], unfollowed := true, recurses := true, named := ["unicode/utf8.first", "unicode/utf8.acceptRanges", "internal/bytealg.MaxLen", "internal/strconv.uint64pow10", "math/bits.deBruijn32tab", "math/bits.deBruijn64tab"], apart := false, laid := [("math/bits.deBruijn32tab", laid_math_bits_deBruijn32tab), ("math/bits.deBruijn64tab", laid_math_bits_deBruijn64tab), ("internal/strconv.uint64pow10", laid_internal_strconv_uint64pow10), ("unicode/utf8.acceptRanges", laid_unicode_utf8_acceptRanges), ("unicode/utf8.first", laid_unicode_utf8_first)] }
def OrderRivalsSaid : Prop := orderRivalsRow.holds Tryz.pinned (OpenSpec.ofChange orderRivalsSpec)

/-- ITS FALSE NEIGHBOUR: 'it returns false'. Refute it at one input. -/
def orderRivalsWrong : ChangeSpec := { name := "orderRivals", fn := fun _ => fun
  | [d1, d2, d3] => { results := [.lit (.bool false)], args := [d1, d2, d3] }
  | _ => none }
def OrderRivalsWrongFalsely : Prop := orderRivalsRow.holds Tryz.pinned (OpenSpec.ofChange orderRivalsWrong)

/-- 'nacrelaw09.OrderTrue': WHATEVER THE INPUT: true; the input reads as it did. -/
def orderTrueSpec : ChangeSpec := { name := "orderTrue", fn := fun _ => fun
  | [d1, d2, d3, d4, d5] => { results := [.lit (.bool true)], args := [d1, d2, d3, d4, d5] }
  | _ => none }
def orderTrueRow : OpenClaim := { program := "ytbjnjlgeendakaagreatdoor", sum := "d021ad3054679f4479c79b5a2bbf7c06bd5073b76bf1905ef8cb4f4eb31bdf15", func := "nacre/nacrelaw09.OrderTrue", spec := "orderTrue", inPlace := ["internal/bytealg.CountString", "internal/bytealg.IndexByteString", "internal/bytealg.IndexString"], unfollowed := true, recurses := true, named := ["unicode/utf8.first", "unicode/utf8.acceptRanges", "internal/bytealg.MaxLen", "internal/strconv.uint64pow10", "math/bits.deBruijn32tab", "math/bits.deBruijn64tab"], apart := false, laid := [("math/bits.deBruijn32tab", laid_math_bits_deBruijn32tab), ("math/bits.deBruijn64tab", laid_math_bits_deBruijn64tab), ("internal/strconv.uint64pow10", laid_internal_strconv_uint64pow10), ("unicode/utf8.acceptRanges", laid_unicode_utf8_acceptRanges), ("unicode/utf8.first", laid_unicode_utf8_first)] }
def OrderTrueSaid : Prop := orderTrueRow.holds Tryz.pinned (OpenSpec.ofChange orderTrueSpec)

/-- ITS FALSE NEIGHBOUR: 'it returns false'. Refute it at one input. -/
def orderTrueWrong : ChangeSpec := { name := "orderTrue", fn := fun _ => fun
  | [d1, d2, d3, d4, d5] => { results := [.lit (.bool false)], args := [d1, d2, d3, d4, d5] }
  | _ => none }
def OrderTrueWrongFalsely : Prop := orderTrueRow.holds Tryz.pinned (OpenSpec.ofChange orderTrueWrong)

/-- 'nacrelaw09.OrderMeanings': WHATEVER THE INPUT: true; the input reads as it did. -/
def orderMeaningsSpec : ChangeSpec := { name := "orderMeanings", fn := fun _ => fun
  | [d1, d2, d3, d4, d5] => { results := [.lit (.bool true)], args := [d1, d2, d3, d4, d5] }
  | _ => none }
def orderMeaningsRow : OpenClaim := { program := "ytbjnjlgeendakaagreatdoor", sum := "d021ad3054679f4479c79b5a2bbf7c06bd5073b76bf1905ef8cb4f4eb31bdf15", func := "nacre/nacrelaw09.OrderMeanings", spec := "orderMeanings", inPlace := ["internal/bytealg.CountString", "internal/bytealg.IndexByteString", "internal/bytealg.IndexString"], unfollowed := true, recurses := true, named := ["unicode/utf8.first", "unicode/utf8.acceptRanges", "internal/bytealg.MaxLen", "internal/strconv.uint64pow10", "math/bits.deBruijn32tab", "math/bits.deBruijn64tab"], apart := false, laid := [("math/bits.deBruijn32tab", laid_math_bits_deBruijn32tab), ("math/bits.deBruijn64tab", laid_math_bits_deBruijn64tab), ("internal/strconv.uint64pow10", laid_internal_strconv_uint64pow10), ("unicode/utf8.acceptRanges", laid_unicode_utf8_acceptRanges), ("unicode/utf8.first", laid_unicode_utf8_first)] }
def OrderMeaningsSaid : Prop := orderMeaningsRow.holds Tryz.pinned (OpenSpec.ofChange orderMeaningsSpec)

/-- ITS FALSE NEIGHBOUR: 'it returns false'. Refute it at one input. -/
def orderMeaningsWrong : ChangeSpec := { name := "orderMeanings", fn := fun _ => fun
  | [d1, d2, d3, d4, d5] => { results := [.lit (.bool false)], args := [d1, d2, d3, d4, d5] }
  | _ => none }
def OrderMeaningsWrongFalsely : Prop := orderMeaningsRow.holds Tryz.pinned (OpenSpec.ofChange orderMeaningsWrong)

/- THE SECOND FORM. 'bulk': how many values and letters a reading holds, each counted each time it is reached (what is shared counts as often as it is met; a slice's spare places count too). A statement '..UptoSaid' is the law's where the arguments, and the package variables that the reading takes, are together of bulk at most 1048576: NARROWER than '..Said'. Prove '..Said' where nothing that the law and all that it calls make is longer than what came in: it says more and counts as full. Else prove '..UptoSaid'. A law counts once. -/
mutual
def uptoBulk {H : Type} : DataW H → Nat
  | .lit (.string bytes) => bytes.length + 1
  | .lit _ => 1
  | .nil => 1
  | .ptr d => uptoBulk d + 1
  | .slice elems spare => uptoBulkAll elems + uptoBulkAll spare + 1
  | .agg parts => uptoBulkAll parts + 1
  | .iface _ d => uptoBulk d + 1
  | .map entries => uptoBulkEntries entries + 1
  | .held _ => 1
def uptoBulkAll {H : Type} : List (DataW H) → Nat
  | [] => 0
  | d :: r => uptoBulk d + uptoBulkAll r
def uptoBulkEntries {H : Type} : List (Lit × DataW H) → Nat
  | [] => 0
  | x :: r => uptoBulkEntry x + uptoBulkEntries r
def uptoBulkEntry {H : Type} : Lit × DataW H → Nat
  | (.string bytes, d) => bytes.length + uptoBulk d + 1
  | (_, d) => uptoBulk d + 1
 end
def uptoSmall : (H : Type) → List (DataW H) → Bool := fun _ ds => decide (uptoBulkAll ds ≤ 1048576)
def OpenSpec.upto (s : _root_.Go.ChangeSpec) : _root_.Go.OpenSpec := { _root_.Go.OpenSpec.ofChange s with cond := some uptoSmall }

/-- 'nacrelaw09.OrderTruths', WHERE WHAT IT READS IS OF BULK AT MOST 1048576: true; the input reads as it did. -/
def orderTruthsUptoRow : OpenClaim := { program := "ytbjnjlgeendakaagreatdoor", sum := "d021ad3054679f4479c79b5a2bbf7c06bd5073b76bf1905ef8cb4f4eb31bdf15", func := "nacre/nacrelaw09.OrderTruths", spec := "orderTruths", inPlace := ["internal/bytealg.CountString", "internal/bytealg.IndexByteString", "internal/bytealg.IndexString"], unfollowed := true, recurses := true, named := ["unicode/utf8.first", "unicode/utf8.acceptRanges", "internal/bytealg.MaxLen", "internal/strconv.uint64pow10", "math/bits.deBruijn32tab", "math/bits.deBruijn64tab"], apart := false, laid := [("math/bits.deBruijn32tab", laid_math_bits_deBruijn32tab), ("math/bits.deBruijn64tab", laid_math_bits_deBruijn64tab), ("internal/strconv.uint64pow10", laid_internal_strconv_uint64pow10), ("unicode/utf8.acceptRanges", laid_unicode_utf8_acceptRanges), ("unicode/utf8.first", laid_unicode_utf8_first)], narrowed := true }
def OrderTruthsUptoSaid : Prop := orderTruthsUptoRow.holds Tryz.pinned (OpenSpec.upto orderTruthsSpec)

/-- 'nacrelaw09.OrderAsked', WHERE WHAT IT READS IS OF BULK AT MOST 1048576: true; the input reads as it did. -/
def orderAskedUptoRow : OpenClaim := { program := "ytbjnjlgeendakaagreatdoor", sum := "d021ad3054679f4479c79b5a2bbf7c06bd5073b76bf1905ef8cb4f4eb31bdf15", func := "nacre/nacrelaw09.OrderAsked", spec := "orderAsked", inPlace := ["internal/bytealg.CountString", "internal/bytealg.IndexByteString", "internal/bytealg.IndexString"], unfollowed := true, recurses := true, named := ["unicode/utf8.first", "unicode/utf8.acceptRanges", "internal/bytealg.MaxLen", "internal/strconv.uint64pow10", "math/bits.deBruijn32tab", "math/bits.deBruijn64tab"], apart := false, laid := [("math/bits.deBruijn32tab", laid_math_bits_deBruijn32tab), ("math/bits.deBruijn64tab", laid_math_bits_deBruijn64tab), ("internal/strconv.uint64pow10", laid_internal_strconv_uint64pow10), ("unicode/utf8.acceptRanges", laid_unicode_utf8_acceptRanges), ("unicode/utf8.first", laid_unicode_utf8_first)], narrowed := true }
def OrderAskedUptoSaid : Prop := orderAskedUptoRow.holds Tryz.pinned (OpenSpec.upto orderAskedSpec)

/-- 'nacrelaw09.OrderLetters', WHERE WHAT IT READS IS OF BULK AT MOST 1048576: true; the input reads as it did. -/
def orderLettersUptoRow : OpenClaim := { program := "ytbjnjlgeendakaagreatdoor", sum := "d021ad3054679f4479c79b5a2bbf7c06bd5073b76bf1905ef8cb4f4eb31bdf15", func := "nacre/nacrelaw09.OrderLetters", spec := "orderLetters", inPlace := ["internal/bytealg.CountString", "internal/bytealg.IndexByteString", "internal/bytealg.IndexString"], unfollowed := true, recurses := true, named := ["unicode/utf8.first", "unicode/utf8.acceptRanges", "internal/bytealg.MaxLen", "internal/strconv.uint64pow10", "math/bits.deBruijn32tab", "math/bits.deBruijn64tab"], apart := false, laid := [("math/bits.deBruijn32tab", laid_math_bits_deBruijn32tab), ("math/bits.deBruijn64tab", laid_math_bits_deBruijn64tab), ("internal/strconv.uint64pow10", laid_internal_strconv_uint64pow10), ("unicode/utf8.acceptRanges", laid_unicode_utf8_acceptRanges), ("unicode/utf8.first", laid_unicode_utf8_first)], narrowed := true }
def OrderLettersUptoSaid : Prop := orderLettersUptoRow.holds Tryz.pinned (OpenSpec.upto orderLettersSpec)

/-- 'nacrelaw09.OrderLies', WHERE WHAT IT READS IS OF BULK AT MOST 1048576: true; the input reads as it did. -/
def orderLiesUptoRow : OpenClaim := { program := "ytbjnjlgeendakaagreatdoor", sum := "d021ad3054679f4479c79b5a2bbf7c06bd5073b76bf1905ef8cb4f4eb31bdf15", func := "nacre/nacrelaw09.OrderLies", spec := "orderLies", inPlace := ["internal/bytealg.CountString", "internal/bytealg.IndexByteString", "internal/bytealg.IndexString"], unfollowed := true, recurses := true, named := ["unicode/utf8.first", "unicode/utf8.acceptRanges", "internal/bytealg.MaxLen", "internal/strconv.uint64pow10", "math/bits.deBruijn32tab", "math/bits.deBruijn64tab"], apart := false, laid := [("math/bits.deBruijn32tab", laid_math_bits_deBruijn32tab), ("math/bits.deBruijn64tab", laid_math_bits_deBruijn64tab), ("internal/strconv.uint64pow10", laid_internal_strconv_uint64pow10), ("unicode/utf8.acceptRanges", laid_unicode_utf8_acceptRanges), ("unicode/utf8.first", laid_unicode_utf8_first)], narrowed := true }
def OrderLiesUptoSaid : Prop := orderLiesUptoRow.holds Tryz.pinned (OpenSpec.upto orderLiesSpec)

/-- 'nacrelaw09.OrderPacks', WHERE WHAT IT READS IS OF BULK AT MOST 1048576: true; the input reads as it did. -/
def orderPacksUptoRow : OpenClaim := { program := "ytbjnjlgeendakaagreatdoor", sum := "d021ad3054679f4479c79b5a2bbf7c06bd5073b76bf1905ef8cb4f4eb31bdf15", func := "nacre/nacrelaw09.OrderPacks", spec := "orderPacks", inPlace := ["internal/bytealg.CountString", "internal/bytealg.IndexByteString", "internal/bytealg.IndexString"], unfollowed := true, recurses := true, named := ["unicode/utf8.first", "unicode/utf8.acceptRanges", "internal/bytealg.MaxLen", "internal/strconv.uint64pow10", "math/bits.deBruijn32tab", "math/bits.deBruijn64tab"], apart := false, laid := [("math/bits.deBruijn32tab", laid_math_bits_deBruijn32tab), ("math/bits.deBruijn64tab", laid_math_bits_deBruijn64tab), ("internal/strconv.uint64pow10", laid_internal_strconv_uint64pow10), ("unicode/utf8.acceptRanges", laid_unicode_utf8_acceptRanges), ("unicode/utf8.first", laid_unicode_utf8_first)], narrowed := true }
def OrderPacksUptoSaid : Prop := orderPacksUptoRow.holds Tryz.pinned (OpenSpec.upto orderPacksSpec)

/-- 'nacrelaw09.OrderCheaper', WHERE WHAT IT READS IS OF BULK AT MOST 1048576: true; the input reads as it did. -/
def orderCheaperUptoRow : OpenClaim := { program := "ytbjnjlgeendakaagreatdoor", sum := "d021ad3054679f4479c79b5a2bbf7c06bd5073b76bf1905ef8cb4f4eb31bdf15", func := "nacre/nacrelaw09.OrderCheaper", spec := "orderCheaper", inPlace := ["internal/bytealg.CountString", "internal/bytealg.IndexByteString", "internal/bytealg.IndexString"], unfollowed := true, recurses := true, named := ["unicode/utf8.first", "unicode/utf8.acceptRanges", "internal/bytealg.MaxLen", "internal/strconv.uint64pow10", "math/bits.deBruijn32tab", "math/bits.deBruijn64tab"], apart := false, laid := [("math/bits.deBruijn32tab", laid_math_bits_deBruijn32tab), ("math/bits.deBruijn64tab", laid_math_bits_deBruijn64tab), ("internal/strconv.uint64pow10", laid_internal_strconv_uint64pow10), ("unicode/utf8.acceptRanges", laid_unicode_utf8_acceptRanges), ("unicode/utf8.first", laid_unicode_utf8_first)], narrowed := true }
def OrderCheaperUptoSaid : Prop := orderCheaperUptoRow.holds Tryz.pinned (OpenSpec.upto orderCheaperSpec)

/-- 'nacrelaw09.OrderBuys', WHERE WHAT IT READS IS OF BULK AT MOST 1048576: true; the input reads as it did. -/
def orderBuysUptoRow : OpenClaim := { program := "ytbjnjlgeendakaagreatdoor", sum := "d021ad3054679f4479c79b5a2bbf7c06bd5073b76bf1905ef8cb4f4eb31bdf15", func := "nacre/nacrelaw09.OrderBuys", spec := "orderBuys", inPlace := ["internal/bytealg.CountString", "internal/bytealg.IndexByteString", "internal/bytealg.IndexString"], unfollowed := true, recurses := true, named := ["unicode/utf8.first", "unicode/utf8.acceptRanges", "internal/bytealg.MaxLen", "internal/strconv.uint64pow10", "math/bits.deBruijn32tab", "math/bits.deBruijn64tab"], apart := false, laid := [("math/bits.deBruijn32tab", laid_math_bits_deBruijn32tab), ("math/bits.deBruijn64tab", laid_math_bits_deBruijn64tab), ("internal/strconv.uint64pow10", laid_internal_strconv_uint64pow10), ("unicode/utf8.acceptRanges", laid_unicode_utf8_acceptRanges), ("unicode/utf8.first", laid_unicode_utf8_first)], narrowed := true }
def OrderBuysUptoSaid : Prop := orderBuysUptoRow.holds Tryz.pinned (OpenSpec.upto orderBuysSpec)

/-- 'nacrelaw09.OrderMore', WHERE WHAT IT READS IS OF BULK AT MOST 1048576: true; the input reads as it did. -/
def orderMoreUptoRow : OpenClaim := { program := "ytbjnjlgeendakaagreatdoor", sum := "d021ad3054679f4479c79b5a2bbf7c06bd5073b76bf1905ef8cb4f4eb31bdf15", func := "nacre/nacrelaw09.OrderMore", spec := "orderMore", inPlace := ["internal/bytealg.CountString", "internal/bytealg.IndexByteString", "internal/bytealg.IndexString"], unfollowed := true, recurses := true, named := ["unicode/utf8.first", "unicode/utf8.acceptRanges", "internal/bytealg.MaxLen", "internal/strconv.uint64pow10", "math/bits.deBruijn32tab", "math/bits.deBruijn64tab"], apart := false, laid := [("math/bits.deBruijn32tab", laid_math_bits_deBruijn32tab), ("math/bits.deBruijn64tab", laid_math_bits_deBruijn64tab), ("internal/strconv.uint64pow10", laid_internal_strconv_uint64pow10), ("unicode/utf8.acceptRanges", laid_unicode_utf8_acceptRanges), ("unicode/utf8.first", laid_unicode_utf8_first)], narrowed := true }
def OrderMoreUptoSaid : Prop := orderMoreUptoRow.holds Tryz.pinned (OpenSpec.upto orderMoreSpec)

/-- 'nacrelaw09.OrderStocks', WHERE WHAT IT READS IS OF BULK AT MOST 1048576: true; the input reads as it did. -/
def orderStocksUptoRow : OpenClaim := { program := "ytbjnjlgeendakaagreatdoor", sum := "d021ad3054679f4479c79b5a2bbf7c06bd5073b76bf1905ef8cb4f4eb31bdf15", func := "nacre/nacrelaw09.OrderStocks", spec := "orderStocks", inPlace := ["internal/bytealg.CountString", "internal/bytealg.IndexByteString", "internal/bytealg.IndexString"], unfollowed := true, recurses := true, named := ["unicode/utf8.first", "unicode/utf8.acceptRanges", "internal/bytealg.MaxLen", "internal/strconv.uint64pow10", "math/bits.deBruijn32tab", "math/bits.deBruijn64tab"], apart := false, laid := [("math/bits.deBruijn32tab", laid_math_bits_deBruijn32tab), ("math/bits.deBruijn64tab", laid_math_bits_deBruijn64tab), ("internal/strconv.uint64pow10", laid_internal_strconv_uint64pow10), ("unicode/utf8.acceptRanges", laid_unicode_utf8_acceptRanges), ("unicode/utf8.first", laid_unicode_utf8_first)], narrowed := true }
def OrderStocksUptoSaid : Prop := orderStocksUptoRow.holds Tryz.pinned (OpenSpec.upto orderStocksSpec)

/-- 'nacrelaw09.OrderPrints', WHERE WHAT IT READS IS OF BULK AT MOST 1048576: true; the input reads as it did. -/
def orderPrintsUptoRow : OpenClaim := { program := "ytbjnjlgeendakaagreatdoor", sum := "d021ad3054679f4479c79b5a2bbf7c06bd5073b76bf1905ef8cb4f4eb31bdf15", func := "nacre/nacrelaw09.OrderPrints", spec := "orderPrints", inPlace := ["internal/bytealg.CountString", "internal/bytealg.IndexByteString", "internal/bytealg.IndexString"], unfollowed := true, recurses := true, named := ["unicode/utf8.first", "unicode/utf8.acceptRanges", "internal/bytealg.MaxLen", "internal/strconv.uint64pow10", "math/bits.deBruijn32tab", "math/bits.deBruijn64tab"], apart := false, laid := [("math/bits.deBruijn32tab", laid_math_bits_deBruijn32tab), ("math/bits.deBruijn64tab", laid_math_bits_deBruijn64tab), ("internal/strconv.uint64pow10", laid_internal_strconv_uint64pow10), ("unicode/utf8.acceptRanges", laid_unicode_utf8_acceptRanges), ("unicode/utf8.first", laid_unicode_utf8_first)], narrowed := true }
def OrderPrintsUptoSaid : Prop := orderPrintsUptoRow.holds Tryz.pinned (OpenSpec.upto orderPrintsSpec)

/-- 'nacrelaw09.OrderTexts', WHERE WHAT IT READS IS OF BULK AT MOST 1048576: true; the input reads as it did. -/
def orderTextsUptoRow : OpenClaim := { program := "ytbjnjlgeendakaagreatdoor", sum := "d021ad3054679f4479c79b5a2bbf7c06bd5073b76bf1905ef8cb4f4eb31bdf15", func := "nacre/nacrelaw09.OrderTexts", spec := "orderTexts", inPlace := ["internal/bytealg.CountString", "internal/bytealg.IndexByteString", "internal/bytealg.IndexString"], unfollowed := true, recurses := true, named := ["unicode/utf8.first", "unicode/utf8.acceptRanges", "internal/bytealg.MaxLen", "internal/strconv.uint64pow10", "math/bits.deBruijn32tab", "math/bits.deBruijn64tab"], apart := false, laid := [("math/bits.deBruijn32tab", laid_math_bits_deBruijn32tab), ("math/bits.deBruijn64tab", laid_math_bits_deBruijn64tab), ("internal/strconv.uint64pow10", laid_internal_strconv_uint64pow10), ("unicode/utf8.acceptRanges", laid_unicode_utf8_acceptRanges), ("unicode/utf8.first", laid_unicode_utf8_first)], narrowed := true }
def OrderTextsUptoSaid : Prop := orderTextsUptoRow.holds Tryz.pinned (OpenSpec.upto orderTextsSpec)

/-- 'nacrelaw09.OrderSpoilt', WHERE WHAT IT READS IS OF BULK AT MOST 1048576: true; the input reads as it did. -/
def orderSpoiltUptoRow : OpenClaim := { program := "ytbjnjlgeendakaagreatdoor", sum := "d021ad3054679f4479c79b5a2bbf7c06bd5073b76bf1905ef8cb4f4eb31bdf15", func := "nacre/nacrelaw09.OrderSpoilt", spec := "orderSpoilt", inPlace := ["internal/bytealg.CountString", "internal/bytealg.IndexByteString", "internal/bytealg.IndexString"], unfollowed := true, recurses := true, named := ["unicode/utf8.first", "unicode/utf8.acceptRanges", "internal/bytealg.MaxLen", "internal/strconv.uint64pow10", "math/bits.deBruijn32tab", "math/bits.deBruijn64tab"], apart := false, laid := [("math/bits.deBruijn32tab", laid_math_bits_deBruijn32tab), ("math/bits.deBruijn64tab", laid_math_bits_deBruijn64tab), ("internal/strconv.uint64pow10", laid_internal_strconv_uint64pow10), ("unicode/utf8.acceptRanges", laid_unicode_utf8_acceptRanges), ("unicode/utf8.first", laid_unicode_utf8_first)], narrowed := true }
def OrderSpoiltUptoSaid : Prop := orderSpoiltUptoRow.holds Tryz.pinned (OpenSpec.upto orderSpoiltSpec)

/-- 'nacrelaw09.OrderCosts', WHERE WHAT IT READS IS OF BULK AT MOST 1048576: true; the input reads as it did. -/
def orderCostsUptoRow : OpenClaim := { program := "ytbjnjlgeendakaagreatdoor", sum := "d021ad3054679f4479c79b5a2bbf7c06bd5073b76bf1905ef8cb4f4eb31bdf15", func := "nacre/nacrelaw09.OrderCosts", spec := "orderCosts", inPlace := ["internal/bytealg.CountString", "internal/bytealg.IndexByteString", "internal/bytealg.IndexString"], unfollowed := true, recurses := true, named := ["unicode/utf8.first", "unicode/utf8.acceptRanges", "internal/bytealg.MaxLen", "internal/strconv.uint64pow10", "math/bits.deBruijn32tab", "math/bits.deBruijn64tab"], apart := false, laid := [("math/bits.deBruijn32tab", laid_math_bits_deBruijn32tab), ("math/bits.deBruijn64tab", laid_math_bits_deBruijn64tab), ("internal/strconv.uint64pow10", laid_internal_strconv_uint64pow10), ("unicode/utf8.acceptRanges", laid_unicode_utf8_acceptRanges), ("unicode/utf8.first", laid_unicode_utf8_first)], narrowed := true }
def OrderCostsUptoSaid : Prop := orderCostsUptoRow.holds Tryz.pinned (OpenSpec.upto orderCostsSpec)

/-- 'nacrelaw09.OrderRivals', WHERE WHAT IT READS IS OF BULK AT MOST 1048576: true; the input reads as it did. -/
def orderRivalsUptoRow : OpenClaim := { program := "ytbjnjlgeendakaagreatdoor", sum := "d021ad3054679f4479c79b5a2bbf7c06bd5073b76bf1905ef8cb4f4eb31bdf15", func := "nacre/nacrelaw09.OrderRivals", spec := "orderRivals", inPlace := ["internal/bytealg.CountString", "internal/bytealg.IndexByteString", "internal/bytealg.IndexString"], unfollowed := true, recurses := true, named := ["unicode/utf8.first", "unicode/utf8.acceptRanges", "internal/bytealg.MaxLen", "internal/strconv.uint64pow10", "math/bits.deBruijn32tab", "math/bits.deBruijn64tab"], apart := false, laid := [("math/bits.deBruijn32tab", laid_math_bits_deBruijn32tab), ("math/bits.deBruijn64tab", laid_math_bits_deBruijn64tab), ("internal/strconv.uint64pow10", laid_internal_strconv_uint64pow10), ("unicode/utf8.acceptRanges", laid_unicode_utf8_acceptRanges), ("unicode/utf8.first", laid_unicode_utf8_first)], narrowed := true }
def OrderRivalsUptoSaid : Prop := orderRivalsUptoRow.holds Tryz.pinned (OpenSpec.upto orderRivalsSpec)

/-- 'nacrelaw09.OrderTrue', WHERE WHAT IT READS IS OF BULK AT MOST 1048576: true; the input reads as it did. -/
def orderTrueUptoRow : OpenClaim := { program := "ytbjnjlgeendakaagreatdoor", sum := "d021ad3054679f4479c79b5a2bbf7c06bd5073b76bf1905ef8cb4f4eb31bdf15", func := "nacre/nacrelaw09.OrderTrue", spec := "orderTrue", inPlace := ["internal/bytealg.CountString", "internal/bytealg.IndexByteString", "internal/bytealg.IndexString"], unfollowed := true, recurses := true, named := ["unicode/utf8.first", "unicode/utf8.acceptRanges", "internal/bytealg.MaxLen", "internal/strconv.uint64pow10", "math/bits.deBruijn32tab", "math/bits.deBruijn64tab"], apart := false, laid := [("math/bits.deBruijn32tab", laid_math_bits_deBruijn32tab), ("math/bits.deBruijn64tab", laid_math_bits_deBruijn64tab), ("internal/strconv.uint64pow10", laid_internal_strconv_uint64pow10), ("unicode/utf8.acceptRanges", laid_unicode_utf8_acceptRanges), ("unicode/utf8.first", laid_unicode_utf8_first)], narrowed := true }
def OrderTrueUptoSaid : Prop := orderTrueUptoRow.holds Tryz.pinned (OpenSpec.upto orderTrueSpec)

/-- 'nacrelaw09.OrderMeanings', WHERE WHAT IT READS IS OF BULK AT MOST 1048576: true; the input reads as it did. -/
def orderMeaningsUptoRow : OpenClaim := { program := "ytbjnjlgeendakaagreatdoor", sum := "d021ad3054679f4479c79b5a2bbf7c06bd5073b76bf1905ef8cb4f4eb31bdf15", func := "nacre/nacrelaw09.OrderMeanings", spec := "orderMeanings", inPlace := ["internal/bytealg.CountString", "internal/bytealg.IndexByteString", "internal/bytealg.IndexString"], unfollowed := true, recurses := true, named := ["unicode/utf8.first", "unicode/utf8.acceptRanges", "internal/bytealg.MaxLen", "internal/strconv.uint64pow10", "math/bits.deBruijn32tab", "math/bits.deBruijn64tab"], apart := false, laid := [("math/bits.deBruijn32tab", laid_math_bits_deBruijn32tab), ("math/bits.deBruijn64tab", laid_math_bits_deBruijn64tab), ("internal/strconv.uint64pow10", laid_internal_strconv_uint64pow10), ("unicode/utf8.acceptRanges", laid_unicode_utf8_acceptRanges), ("unicode/utf8.first", laid_unicode_utf8_first)], narrowed := true }
def OrderMeaningsUptoSaid : Prop := orderMeaningsUptoRow.holds Tryz.pinned (OpenSpec.upto orderMeaningsSpec)

end Rows
end Go.Proofs.YtbjnjlgeendakaaGreatDoor
