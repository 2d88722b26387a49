/- Own library, part Hn: a header that comes in as an argument. -/
import Derived.Test.YtamjaacddbecaaaKxHm
import Derived.Test.YtamjaacddbecaaaKxWx
import Derived.Test.YtamjaacddbecaaaKxR
set_option linter.unusedSimpArgs false
set_option linter.unusedVariables false
set_option linter.unusedSimpArgs false
namespace Go.Kx
open Go
open Go.ChangeShapes Go.WideShapes Go.ChangeAt Go.RowKit
variable {P : Program} {W : World}
/-- The fields of a struct of 2, 3, 4 fields. -/
def fieldsL (P : Program) (fs : Array Field) : List (Nat × Nat × Nat) := fs.toList.map (fun f => (f.type, f.offset, P.cellsOf f.type))
/-- The types' numbers. -/
structure HdT (P : Program) where
  (th tg tvs tv tss ts tx tk tt ta ti tb tn te : Nat)
  (fh fg fv fs fx : Array Field)
  uh : P.underlying th = some (.struct fh)
  ug : P.underlying tg = some (.struct fg)
  uvs : P.underlying tvs = some (.array 2 tv)
  uv : P.underlying tv = some (.struct fv)
  uss : P.underlying tss = some (.array 4 ts)
  us : P.underlying ts = some (.struct fs)
  ux : P.underlying tx = some (.struct fx)
  uk : P.underlying tk = some (.array 32 te)
  ut : P.underlying tt = some (.array 32 te)
  ua : P.underlying ta = some (.array 16 te)
  ui : P.underlying ti = some (.int .i64)
  ub : P.underlying tb = some .bool
  un : P.underlying tn = some (.int .u64)
  ue : P.underlying te = some (.int .u8)
  ch : P.cellsOf th = 462
  cg : P.cellsOf tg = 2
  cvs : P.cellsOf tvs = 2 * 66
  cv : P.cellsOf tv = 66
  css : P.cellsOf tss = 4 * 82
  cs : P.cellsOf ts = 82
  cx : P.cellsOf tx = 64
  ck : P.cellsOf tk = 32 * 1
  ct : P.cellsOf tt = 32 * 1
  ca : P.cellsOf ta = 16 * 1
  ce : P.cellsOf te = 1
  lh : fieldsL P fh = [(tg, 0, 2), (tvs, 2, 132), (tss, 134, 328)]
  lg : fieldsL P fg = [(ti, 0, 1), (ti, 1, 1)]
  lv : fieldsL P fv = [(tb, 0, 1), (tn, 1, 1), (tx, 2, 64)]
  ls : fieldsL P fs = [(tb, 0, 1), (ti, 1, 1), (ta, 2, 16), (tx, 18, 64)]
  lx : fieldsL P fx = [(tk, 0, 32), (tt, 32, 32)]
end Go.Kx
