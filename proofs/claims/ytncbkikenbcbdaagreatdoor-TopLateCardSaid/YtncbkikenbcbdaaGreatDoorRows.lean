/-
  NARROWER THAN 'FOR EVERY INPUT', by the rows' own cells (each row's printed sentence says how): TopStop: laid · TopLate: laid · TopGone: laid.
  DERIVED. THE GIVEN ROWS OF THIS SEAT. 3 by the template 'for every input the law returns true; each argument reads behind the call as it read before'; 0 by the template 'total and deterministic' (their statements: YtncbkikenbcbdaaGreatDoorTotals.lean).
  GIVEN WITH THE SEED: the statements are not yours to turn. If you find one false, say at which input.
  Laid BY PROGRAM, IN A SANDBOX (cutbox-rows.mjs): the forced cells as the released guide's own fill.sh prints them over the translation 7665768fd30f8176… (all of the seat's roots in one cut). By AI agents, Wed Nov 11 2026. No macro, syntax, notation, axiom, sorry.
-/
import Derived.Test.YtncbkikenbcbdaaGreatDoorChecked
import GoSem.Claim
import GoSem.ClaimJoined
import GoSem.ClaimMapViews
import Derived.JoinedTies
import Derived.KernelRfl
namespace Go.Proofs.YtncbkikenbcbdaaGreatDoor
/- THE CELL 'sum', in the pinned program and in every row, IS THE sha256 OF THE DUMP (.gsa) THAT YtncbkikenbcbdaaGreatDoorProg.lean LOADS. Nothing in Lean hashes anything: it is a label: what it is worth is what the hold of that sum in a sandbox is worth. -/
noncomputable def Tryz.pinned : Pinned := { name := "ytncbkikenbcbdaagreatdoor", sum := "7665768fd30f8176244cfea4384b2ee312171a522f56b9d3af0124a53b6cb146", checked := Tryz.checked }
namespace Rows
def none {H : Type} : Left H := { results := [], args := [] }

/- WHAT THE LISTED PACKAGE-LEVEL VARIABLES READ AS WHEN THE CALL BEGINS. Each datum BY PROGRAM (the guide's laid-datum.mjs) off the statement by which the dump's own 'gosem.cut.vars' lays the variable. In a bare row this is a premise. The card (YtncbkikenbcbdaaGreatDoorCards.lean) ties it to the program's text. -/
def laid_internal_strconv_uint64pow10 {H : Type} : DataW H := .agg [.lit (.int .u64 1), .lit (.int .u64 10), .lit (.int .u64 100), .lit (.int .u64 1000), .lit (.int .u64 10000), .lit (.int .u64 100000), .lit (.int .u64 1000000), .lit (.int .u64 10000000), .lit (.int .u64 100000000), .lit (.int .u64 1000000000), .lit (.int .u64 10000000000), .lit (.int .u64 100000000000), .lit (.int .u64 1000000000000), .lit (.int .u64 10000000000000), .lit (.int .u64 100000000000000), .lit (.int .u64 1000000000000000), .lit (.int .u64 10000000000000000), .lit (.int .u64 100000000000000000), .lit (.int .u64 1000000000000000000), .lit (.int .u64 10000000000000000000)]

/-- 'wlvtop.TopStop': WHATEVER THE INPUT: true; the input reads as it did. -/
def topStopSpec : ChangeSpec := { name := "topStop", fn := fun _ => fun
  | [d1, d2] => { results := [.lit (.bool true)], args := [d1, d2] }
  | _ => none }
def topStopRow : OpenClaim := { program := "ytncbkikenbcbdaagreatdoor", sum := "7665768fd30f8176244cfea4384b2ee312171a522f56b9d3af0124a53b6cb146", func := "wayleave/wlvtop.TopStop", spec := "topStop", inPlace := ["gosem.stop:unicode/utf8.RuneCountInString", "gosem.stop:unicode/utf8.DecodeRuneInString", "internal/bytealg.CountString", "internal/bytealg.IndexByteString", "internal/bytealg.IndexString", "gosem.stop:internal/strconv.underscoreOK", "gosem.stop:strconv.toError", "gosem.stop:internal/strconv.formatBits", "internal/abi.NoEscape", "slices.overlaps[byte]", "internal/bytealg.MakeNoZero", "gosem.stop:strconv.FormatInt", "gosem.stop:wayleave/huff.Encode", "gosem.stop:wayleave/part.conn", "gosem.stop:wayleave/part.number", "gosem.stop:wayleave/part.whole", "gosem.stop:wayleave/part.update", "gosem.stop:wayleave/part.stream", "gosem.stop:(*wayleave/conn.Conn).faults", "gosem.stop:wayleave/life.fault", "gosem.stop:(*wayleave/unpack.block).at", "gosem.stop:wayleave/huff.Decode", "gosem.stop:(*wayleave/conn.Conn).rst", "gosem.stop:wayleave/sets.wrong", "gosem.stop:wayleave/flow.Shift", "gosem.stop:wayleave/part.Ping", "gosem.stop:(*wayleave/conn.Conn).update", "gosem.stop:unicode/utf8.DecodeLastRuneInString", "gosem.stop:unicode/utf8.ValidRune", "gosem.stop:unicode.SimpleFold", "math/bits.Add64", "gosem.stop:(*wayleave/tunnel.Tunnel).Held"], unfollowed := true, recurses := true, named := ["internal/bytealg.MaxLen", "internal/strconv.uint64pow10"], apart := false, laid := [("internal/strconv.uint64pow10", laid_internal_strconv_uint64pow10)] }
def TopStopSaid : Prop := topStopRow.holds Tryz.pinned (OpenSpec.ofChange topStopSpec)

/-- ITS FALSE NEIGHBOUR: 'it returns false'. Refute it at one input. -/
def topStopWrong : ChangeSpec := { name := "topStop", fn := fun _ => fun
  | [d1, d2] => { results := [.lit (.bool false)], args := [d1, d2] }
  | _ => none }
def TopStopWrongFalsely : Prop := topStopRow.holds Tryz.pinned (OpenSpec.ofChange topStopWrong)

/-- 'wlvtop.TopLate': WHATEVER THE INPUT: true; the input reads as it did. -/
def topLateSpec : ChangeSpec := { name := "topLate", fn := fun _ => fun
  | [d1, d2] => { results := [.lit (.bool true)], args := [d1, d2] }
  | _ => none }
def topLateRow : OpenClaim := { program := "ytncbkikenbcbdaagreatdoor", sum := "7665768fd30f8176244cfea4384b2ee312171a522f56b9d3af0124a53b6cb146", func := "wayleave/wlvtop.TopLate", spec := "topLate", inPlace := ["gosem.stop:unicode/utf8.RuneCountInString", "gosem.stop:unicode/utf8.DecodeRuneInString", "internal/bytealg.CountString", "internal/bytealg.IndexByteString", "internal/bytealg.IndexString", "gosem.stop:internal/strconv.underscoreOK", "gosem.stop:strconv.toError", "gosem.stop:internal/strconv.formatBits", "internal/abi.NoEscape", "slices.overlaps[byte]", "internal/bytealg.MakeNoZero", "gosem.stop:strconv.FormatInt", "gosem.stop:wayleave/huff.Encode", "gosem.stop:wayleave/part.conn", "gosem.stop:wayleave/part.number", "gosem.stop:wayleave/part.whole", "gosem.stop:wayleave/part.update", "gosem.stop:wayleave/part.stream", "gosem.stop:(*wayleave/conn.Conn).faults", "gosem.stop:wayleave/life.fault", "gosem.stop:(*wayleave/unpack.block).at", "gosem.stop:wayleave/huff.Decode", "gosem.stop:(*wayleave/conn.Conn).rst", "gosem.stop:wayleave/sets.wrong", "gosem.stop:wayleave/flow.Shift", "gosem.stop:wayleave/part.Ping", "gosem.stop:(*wayleave/conn.Conn).update", "gosem.stop:unicode/utf8.DecodeLastRuneInString", "gosem.stop:unicode/utf8.ValidRune", "gosem.stop:unicode.SimpleFold", "math/bits.Add64", "gosem.stop:(*wayleave/tunnel.Tunnel).Held"], unfollowed := true, recurses := true, named := ["internal/bytealg.MaxLen", "internal/strconv.uint64pow10"], apart := false, laid := [("internal/strconv.uint64pow10", laid_internal_strconv_uint64pow10)] }
def TopLateSaid : Prop := topLateRow.holds Tryz.pinned (OpenSpec.ofChange topLateSpec)

/-- ITS FALSE NEIGHBOUR: 'it returns false'. Refute it at one input. -/
def topLateWrong : ChangeSpec := { name := "topLate", fn := fun _ => fun
  | [d1, d2] => { results := [.lit (.bool false)], args := [d1, d2] }
  | _ => none }
def TopLateWrongFalsely : Prop := topLateRow.holds Tryz.pinned (OpenSpec.ofChange topLateWrong)

/-- 'wlvtop.TopGone': WHATEVER THE INPUT: true; the input reads as it did. -/
def topGoneSpec : ChangeSpec := { name := "topGone", fn := fun _ => fun
  | [d1, d2] => { results := [.lit (.bool true)], args := [d1, d2] }
  | _ => none }
def topGoneRow : OpenClaim := { program := "ytncbkikenbcbdaagreatdoor", sum := "7665768fd30f8176244cfea4384b2ee312171a522f56b9d3af0124a53b6cb146", func := "wayleave/wlvtop.TopGone", spec := "topGone", inPlace := ["gosem.stop:unicode/utf8.RuneCountInString", "gosem.stop:unicode/utf8.DecodeRuneInString", "internal/bytealg.CountString", "internal/bytealg.IndexByteString", "internal/bytealg.IndexString", "gosem.stop:internal/strconv.underscoreOK", "gosem.stop:strconv.toError", "gosem.stop:internal/strconv.formatBits", "internal/abi.NoEscape", "slices.overlaps[byte]", "internal/bytealg.MakeNoZero", "gosem.stop:strconv.FormatInt", "gosem.stop:wayleave/huff.Encode", "gosem.stop:wayleave/part.conn", "gosem.stop:wayleave/part.number", "gosem.stop:wayleave/part.whole", "gosem.stop:wayleave/part.update", "gosem.stop:wayleave/part.stream", "gosem.stop:(*wayleave/conn.Conn).faults", "gosem.stop:wayleave/life.fault", "gosem.stop:(*wayleave/unpack.block).at", "gosem.stop:wayleave/huff.Decode", "gosem.stop:(*wayleave/conn.Conn).rst", "gosem.stop:wayleave/sets.wrong", "gosem.stop:wayleave/flow.Shift", "gosem.stop:wayleave/part.Ping", "gosem.stop:(*wayleave/conn.Conn).update", "gosem.stop:unicode/utf8.DecodeLastRuneInString", "gosem.stop:unicode/utf8.ValidRune", "gosem.stop:unicode.SimpleFold", "math/bits.Add64", "gosem.stop:(*wayleave/tunnel.Tunnel).Held"], unfollowed := true, recurses := true, named := ["internal/bytealg.MaxLen", "internal/strconv.uint64pow10"], apart := false, laid := [("internal/strconv.uint64pow10", laid_internal_strconv_uint64pow10)] }
def TopGoneSaid : Prop := topGoneRow.holds Tryz.pinned (OpenSpec.ofChange topGoneSpec)

/-- ITS FALSE NEIGHBOUR: 'it returns false'. Refute it at one input. -/
def topGoneWrong : ChangeSpec := { name := "topGone", fn := fun _ => fun
  | [d1, d2] => { results := [.lit (.bool false)], args := [d1, d2] }
  | _ => none }
def TopGoneWrongFalsely : Prop := topGoneRow.holds Tryz.pinned (OpenSpec.ofChange topGoneWrong)

/- THE SECOND FORM. 'bulk': how many values and letters a reading holds, each counted each time it is reached (what is shared counts as often as it is met; a slice's spare places count too). A statement '..UptoSaid' is the law's where the arguments, and the package variables that the reading takes, are together of bulk at most 1048576: NARROWER than '..Said'. Prove '..Said' where nothing that the law and all that it calls make is longer than what came in: it says more and counts as full. Else prove '..UptoSaid'. A law counts once. -/
mutual
def uptoBulk {H : Type} : DataW H → Nat
  | .lit (.string bytes) => bytes.length + 1
  | .lit _ => 1
  | .nil => 1
  | .ptr d => uptoBulk d + 1
  | .slice elems spare => uptoBulkAll elems + uptoBulkAll spare + 1
  | .agg parts => uptoBulkAll parts + 1
  | .iface _ d => uptoBulk d + 1
  | .map entries => uptoBulkEntries entries + 1
  | .held _ => 1
def uptoBulkAll {H : Type} : List (DataW H) → Nat
  | [] => 0
  | d :: r => uptoBulk d + uptoBulkAll r
def uptoBulkEntries {H : Type} : List (Lit × DataW H) → Nat
  | [] => 0
  | x :: r => uptoBulkEntry x + uptoBulkEntries r
def uptoBulkEntry {H : Type} : Lit × DataW H → Nat
  | (.string bytes, d) => bytes.length + uptoBulk d + 1
  | (_, d) => uptoBulk d + 1
 end
def uptoSmall : (H : Type) → List (DataW H) → Bool := fun _ ds => decide (uptoBulkAll ds ≤ 1048576)
def OpenSpec.upto (s : _root_.Go.ChangeSpec) : _root_.Go.OpenSpec := { _root_.Go.OpenSpec.ofChange s with cond := some uptoSmall }

/-- 'wlvtop.TopStop', WHERE WHAT IT READS IS OF BULK AT MOST 1048576: true; the input reads as it did. -/
def topStopUptoRow : OpenClaim := { program := "ytncbkikenbcbdaagreatdoor", sum := "7665768fd30f8176244cfea4384b2ee312171a522f56b9d3af0124a53b6cb146", func := "wayleave/wlvtop.TopStop", spec := "topStop", inPlace := ["gosem.stop:unicode/utf8.RuneCountInString", "gosem.stop:unicode/utf8.DecodeRuneInString", "internal/bytealg.CountString", "internal/bytealg.IndexByteString", "internal/bytealg.IndexString", "gosem.stop:internal/strconv.underscoreOK", "gosem.stop:strconv.toError", "gosem.stop:internal/strconv.formatBits", "internal/abi.NoEscape", "slices.overlaps[byte]", "internal/bytealg.MakeNoZero", "gosem.stop:strconv.FormatInt", "gosem.stop:wayleave/huff.Encode", "gosem.stop:wayleave/part.conn", "gosem.stop:wayleave/part.number", "gosem.stop:wayleave/part.whole", "gosem.stop:wayleave/part.update", "gosem.stop:wayleave/part.stream", "gosem.stop:(*wayleave/conn.Conn).faults", "gosem.stop:wayleave/life.fault", "gosem.stop:(*wayleave/unpack.block).at", "gosem.stop:wayleave/huff.Decode", "gosem.stop:(*wayleave/conn.Conn).rst", "gosem.stop:wayleave/sets.wrong", "gosem.stop:wayleave/flow.Shift", "gosem.stop:wayleave/part.Ping", "gosem.stop:(*wayleave/conn.Conn).update", "gosem.stop:unicode/utf8.DecodeLastRuneInString", "gosem.stop:unicode/utf8.ValidRune", "gosem.stop:unicode.SimpleFold", "math/bits.Add64", "gosem.stop:(*wayleave/tunnel.Tunnel).Held"], unfollowed := true, recurses := true, named := ["internal/bytealg.MaxLen", "internal/strconv.uint64pow10"], apart := false, laid := [("internal/strconv.uint64pow10", laid_internal_strconv_uint64pow10)], narrowed := true }
def TopStopUptoSaid : Prop := topStopUptoRow.holds Tryz.pinned (OpenSpec.upto topStopSpec)

/-- 'wlvtop.TopLate', WHERE WHAT IT READS IS OF BULK AT MOST 1048576: true; the input reads as it did. -/
def topLateUptoRow : OpenClaim := { program := "ytncbkikenbcbdaagreatdoor", sum := "7665768fd30f8176244cfea4384b2ee312171a522f56b9d3af0124a53b6cb146", func := "wayleave/wlvtop.TopLate", spec := "topLate", inPlace := ["gosem.stop:unicode/utf8.RuneCountInString", "gosem.stop:unicode/utf8.DecodeRuneInString", "internal/bytealg.CountString", "internal/bytealg.IndexByteString", "internal/bytealg.IndexString", "gosem.stop:internal/strconv.underscoreOK", "gosem.stop:strconv.toError", "gosem.stop:internal/strconv.formatBits", "internal/abi.NoEscape", "slices.overlaps[byte]", "internal/bytealg.MakeNoZero", "gosem.stop:strconv.FormatInt", "gosem.stop:wayleave/huff.Encode", "gosem.stop:wayleave/part.conn", "gosem.stop:wayleave/part.number", "gosem.stop:wayleave/part.whole", "gosem.stop:wayleave/part.update", "gosem.stop:wayleave/part.stream", "gosem.stop:(*wayleave/conn.Conn).faults", "gosem.stop:wayleave/life.fault", "gosem.stop:(*wayleave/unpack.block).at", "gosem.stop:wayleave/huff.Decode", "gosem.stop:(*wayleave/conn.Conn).rst", "gosem.stop:wayleave/sets.wrong", "gosem.stop:wayleave/flow.Shift", "gosem.stop:wayleave/part.Ping", "gosem.stop:(*wayleave/conn.Conn).update", "gosem.stop:unicode/utf8.DecodeLastRuneInString", "gosem.stop:unicode/utf8.ValidRune", "gosem.stop:unicode.SimpleFold", "math/bits.Add64", "gosem.stop:(*wayleave/tunnel.Tunnel).Held"], unfollowed := true, recurses := true, named := ["internal/bytealg.MaxLen", "internal/strconv.uint64pow10"], apart := false, laid := [("internal/strconv.uint64pow10", laid_internal_strconv_uint64pow10)], narrowed := true }
def TopLateUptoSaid : Prop := topLateUptoRow.holds Tryz.pinned (OpenSpec.upto topLateSpec)

/-- 'wlvtop.TopGone', WHERE WHAT IT READS IS OF BULK AT MOST 1048576: true; the input reads as it did. -/
def topGoneUptoRow : OpenClaim := { program := "ytncbkikenbcbdaagreatdoor", sum := "7665768fd30f8176244cfea4384b2ee312171a522f56b9d3af0124a53b6cb146", func := "wayleave/wlvtop.TopGone", spec := "topGone", inPlace := ["gosem.stop:unicode/utf8.RuneCountInString", "gosem.stop:unicode/utf8.DecodeRuneInString", "internal/bytealg.CountString", "internal/bytealg.IndexByteString", "internal/bytealg.IndexString", "gosem.stop:internal/strconv.underscoreOK", "gosem.stop:strconv.toError", "gosem.stop:internal/strconv.formatBits", "internal/abi.NoEscape", "slices.overlaps[byte]", "internal/bytealg.MakeNoZero", "gosem.stop:strconv.FormatInt", "gosem.stop:wayleave/huff.Encode", "gosem.stop:wayleave/part.conn", "gosem.stop:wayleave/part.number", "gosem.stop:wayleave/part.whole", "gosem.stop:wayleave/part.update", "gosem.stop:wayleave/part.stream", "gosem.stop:(*wayleave/conn.Conn).faults", "gosem.stop:wayleave/life.fault", "gosem.stop:(*wayleave/unpack.block).at", "gosem.stop:wayleave/huff.Decode", "gosem.stop:(*wayleave/conn.Conn).rst", "gosem.stop:wayleave/sets.wrong", "gosem.stop:wayleave/flow.Shift", "gosem.stop:wayleave/part.Ping", "gosem.stop:(*wayleave/conn.Conn).update", "gosem.stop:unicode/utf8.DecodeLastRuneInString", "gosem.stop:unicode/utf8.ValidRune", "gosem.stop:unicode.SimpleFold", "math/bits.Add64", "gosem.stop:(*wayleave/tunnel.Tunnel).Held"], unfollowed := true, recurses := true, named := ["internal/bytealg.MaxLen", "internal/strconv.uint64pow10"], apart := false, laid := [("internal/strconv.uint64pow10", laid_internal_strconv_uint64pow10)], narrowed := true }
def TopGoneUptoSaid : Prop := topGoneUptoRow.holds Tryz.pinned (OpenSpec.upto topGoneSpec)

end Rows
end Go.Proofs.YtncbkikenbcbdaaGreatDoor
