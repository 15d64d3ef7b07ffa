/- What the functions hand back: level 4. -/
import Derived.Test.YtpckpfbjhnllbaaD4
namespace Go.Sm.Ytpckpfbjhnllbaa
open Go Go.Sm Go.RowKit Go.Proofs

/-! spec.l05At -/
theorem e37 (xs : List LineV) (j : Nat) (x : Nat) : runFn T4 none0 noL Try.f37 [.pt ⟨.v ⟨.line, xs⟩, 4, j, 0⟩, .el (.sc (.fl .f32 x))] = (match (xs : List LineV)[j]? with
  | some x1 => (match (xs : List LineV)[j]? with
    | some x2 => (match (xs : List LineV)[j]? with
      | some x3 => (match ((x3.k : Int) == 0 : Bool) with
        | true => (match (xs : List LineV)[j]? with
          | some x4 => (match (expOk (fop .sub .f32 0 (fop .mul .f32 (fop .quo .f32 (fop .sub .f32 x x1.p) x2.w) (fop .quo .f32 (fop .sub .f32 x x1.p) x2.w))) : Bool) with
            | true => (match (xs : List LineV)[j]? with
              | some x5 => (match ((x5.k : Int) == 1 : Bool) with
                | true => (match (xs : List LineV)[j]? with
                  | some x6 => (match (xs : List LineV)[j]? with
                    | some x7 => (match ((x7.k : Int) == 0 : Bool) with
                      | true => some ⟨[.el (.sc (.fl .f32 (fop .mul .f32 x4.h (expF (fop .sub .f32 0 (fop .mul .f32 (fop .quo .f32 (fop .sub .f32 x x1.p) x2.w) (fop .quo .f32 (fop .sub .f32 x x1.p) x2.w)))))))], none⟩
                      | false => (match ((x7.k : Int) == 1 : Bool) with
                        | true => some ⟨[.el (.sc (.fl .f32 (fop .quo .f32 x6.h (fop .add .f32 1065353216 (fop .mul .f32 (fop .quo .f32 (fop .sub .f32 x x1.p) x2.w) (fop .quo .f32 (fop .sub .f32 x x1.p) x2.w))))))], none⟩
                        | false => (match ((x7.k : Int) == 2 : Bool) with
                          | true => some ⟨[.el (.sc (.fl .f32 (fop .mul .f32 1056964608 (fop .add .f32 (fop .mul .f32 x4.h (expF (fop .sub .f32 0 (fop .mul .f32 (fop .quo .f32 (fop .sub .f32 x x1.p) x2.w) (fop .quo .f32 (fop .sub .f32 x x1.p) x2.w))))) (fop .quo .f32 x6.h (fop .add .f32 1065353216 (fop .mul .f32 (fop .quo .f32 (fop .sub .f32 x x1.p) x2.w) (fop .quo .f32 (fop .sub .f32 x x1.p) x2.w))))))))], none⟩
                          | false => (match (fcmp .lss .f32 (fop .quo .f32 (fop .sub .f32 x x1.p) x2.w) 0 : Bool) with
                            | true => (match (fcmp .gtr .f32 (fneg .f32 (fop .quo .f32 (fop .sub .f32 x x1.p) x2.w)) 1065353216 : Bool) with
                              | true => some ⟨[.el (.sc (.fl .f32 0))], none⟩
                              | false => (match (xs : List LineV)[j]? with
                                | some x8 => some ⟨[.el (.sc (.fl .f32 (fop .mul .f32 x8.h (fop .sub .f32 1065353216 (fneg .f32 (fop .quo .f32 (fop .sub .f32 x x1.p) x2.w))))))], none⟩
                                | none => none))
                            | false => (match (fcmp .gtr .f32 (fop .quo .f32 (fop .sub .f32 x x1.p) x2.w) 1065353216 : Bool) with
                              | true => some ⟨[.el (.sc (.fl .f32 0))], none⟩
                              | false => (match (xs : List LineV)[j]? with
                                | some x9 => some ⟨[.el (.sc (.fl .f32 (fop .mul .f32 x9.h (fop .sub .f32 1065353216 (fop .quo .f32 (fop .sub .f32 x x1.p) x2.w)))))], none⟩
                                | none => none))))))
                    | none => none)
                  | none => none)
                | false => (match (xs : List LineV)[j]? with
                  | some x10 => (match ((x10.k : Int) == 2 : Bool) with
                    | true => (match (xs : List LineV)[j]? with
                      | some x11 => (match (xs : List LineV)[j]? with
                        | some x12 => (match ((x12.k : Int) == 0 : Bool) with
                          | true => some ⟨[.el (.sc (.fl .f32 (fop .mul .f32 x4.h (expF (fop .sub .f32 0 (fop .mul .f32 (fop .quo .f32 (fop .sub .f32 x x1.p) x2.w) (fop .quo .f32 (fop .sub .f32 x x1.p) x2.w)))))))], none⟩
                          | false => (match ((x12.k : Int) == 1 : Bool) with
                            | true => some ⟨[.el (.sc (.fl .f32 (fop .quo .f32 x11.h (fop .add .f32 1065353216 (fop .mul .f32 (fop .quo .f32 (fop .sub .f32 x x1.p) x2.w) (fop .quo .f32 (fop .sub .f32 x x1.p) x2.w))))))], none⟩
                            | false => (match ((x12.k : Int) == 2 : Bool) with
                              | true => some ⟨[.el (.sc (.fl .f32 (fop .mul .f32 1056964608 (fop .add .f32 (fop .mul .f32 x4.h (expF (fop .sub .f32 0 (fop .mul .f32 (fop .quo .f32 (fop .sub .f32 x x1.p) x2.w) (fop .quo .f32 (fop .sub .f32 x x1.p) x2.w))))) (fop .quo .f32 x11.h (fop .add .f32 1065353216 (fop .mul .f32 (fop .quo .f32 (fop .sub .f32 x x1.p) x2.w) (fop .quo .f32 (fop .sub .f32 x x1.p) x2.w))))))))], none⟩
                              | false => (match (fcmp .lss .f32 (fop .quo .f32 (fop .sub .f32 x x1.p) x2.w) 0 : Bool) with
                                | true => (match (fcmp .gtr .f32 (fneg .f32 (fop .quo .f32 (fop .sub .f32 x x1.p) x2.w)) 1065353216 : Bool) with
                                  | true => some ⟨[.el (.sc (.fl .f32 0))], none⟩
                                  | false => (match (xs : List LineV)[j]? with
                                    | some x13 => some ⟨[.el (.sc (.fl .f32 (fop .mul .f32 x13.h (fop .sub .f32 1065353216 (fneg .f32 (fop .quo .f32 (fop .sub .f32 x x1.p) x2.w))))))], none⟩
                                    | none => none))
                                | false => (match (fcmp .gtr .f32 (fop .quo .f32 (fop .sub .f32 x x1.p) x2.w) 1065353216 : Bool) with
                                  | true => some ⟨[.el (.sc (.fl .f32 0))], none⟩
                                  | false => (match (xs : List LineV)[j]? with
                                    | some x14 => some ⟨[.el (.sc (.fl .f32 (fop .mul .f32 x14.h (fop .sub .f32 1065353216 (fop .quo .f32 (fop .sub .f32 x x1.p) x2.w)))))], none⟩
                                    | none => none))))))
                        | none => none)
                      | none => none)
                    | false => (match (xs : List LineV)[j]? with
                      | some x15 => (match ((x15.k : Int) == 0 : Bool) with
                        | true => some ⟨[.el (.sc (.fl .f32 (fop .mul .f32 x4.h (expF (fop .sub .f32 0 (fop .mul .f32 (fop .quo .f32 (fop .sub .f32 x x1.p) x2.w) (fop .quo .f32 (fop .sub .f32 x x1.p) x2.w)))))))], none⟩
                        | false => (match ((x15.k : Int) == 1 : Bool) with
                          | true => some ⟨[.el (.sc (.fl .f32 0))], none⟩
                          | false => (match ((x15.k : Int) == 2 : Bool) with
                            | true => some ⟨[.el (.sc (.fl .f32 (fop .mul .f32 1056964608 (fop .add .f32 (fop .mul .f32 x4.h (expF (fop .sub .f32 0 (fop .mul .f32 (fop .quo .f32 (fop .sub .f32 x x1.p) x2.w) (fop .quo .f32 (fop .sub .f32 x x1.p) x2.w))))) 0))))], none⟩
                            | false => (match (fcmp .lss .f32 (fop .quo .f32 (fop .sub .f32 x x1.p) x2.w) 0 : Bool) with
                              | true => (match (fcmp .gtr .f32 (fneg .f32 (fop .quo .f32 (fop .sub .f32 x x1.p) x2.w)) 1065353216 : Bool) with
                                | true => some ⟨[.el (.sc (.fl .f32 0))], none⟩
                                | false => (match (xs : List LineV)[j]? with
                                  | some x16 => some ⟨[.el (.sc (.fl .f32 (fop .mul .f32 x16.h (fop .sub .f32 1065353216 (fneg .f32 (fop .quo .f32 (fop .sub .f32 x x1.p) x2.w))))))], none⟩
                                  | none => none))
                              | false => (match (fcmp .gtr .f32 (fop .quo .f32 (fop .sub .f32 x x1.p) x2.w) 1065353216 : Bool) with
                                | true => some ⟨[.el (.sc (.fl .f32 0))], none⟩
                                | false => (match (xs : List LineV)[j]? with
                                  | some x17 => some ⟨[.el (.sc (.fl .f32 (fop .mul .f32 x17.h (fop .sub .f32 1065353216 (fop .quo .f32 (fop .sub .f32 x x1.p) x2.w)))))], none⟩
                                  | none => none))))))
                      | none => none))
                  | none => none))
              | none => none)
            | false => none)
          | none => none)
        | false => (match (xs : List LineV)[j]? with
          | some x18 => (match ((x18.k : Int) == 2 : Bool) with
            | true => (match (xs : List LineV)[j]? with
              | some x19 => (match (expOk (fop .sub .f32 0 (fop .mul .f32 (fop .quo .f32 (fop .sub .f32 x x1.p) x2.w) (fop .quo .f32 (fop .sub .f32 x x1.p) x2.w))) : Bool) with
                | true => (match (xs : List LineV)[j]? with
                  | some x20 => (match ((x20.k : Int) == 1 : Bool) with
                    | true => (match (xs : List LineV)[j]? with
                      | some x21 => (match (xs : List LineV)[j]? with
                        | some x22 => (match ((x22.k : Int) == 0 : Bool) with
                          | true => some ⟨[.el (.sc (.fl .f32 (fop .mul .f32 x19.h (expF (fop .sub .f32 0 (fop .mul .f32 (fop .quo .f32 (fop .sub .f32 x x1.p) x2.w) (fop .quo .f32 (fop .sub .f32 x x1.p) x2.w)))))))], none⟩
                          | false => (match ((x22.k : Int) == 1 : Bool) with
                            | true => some ⟨[.el (.sc (.fl .f32 (fop .quo .f32 x21.h (fop .add .f32 1065353216 (fop .mul .f32 (fop .quo .f32 (fop .sub .f32 x x1.p) x2.w) (fop .quo .f32 (fop .sub .f32 x x1.p) x2.w))))))], none⟩
                            | false => (match ((x22.k : Int) == 2 : Bool) with
                              | true => some ⟨[.el (.sc (.fl .f32 (fop .mul .f32 1056964608 (fop .add .f32 (fop .mul .f32 x19.h (expF (fop .sub .f32 0 (fop .mul .f32 (fop .quo .f32 (fop .sub .f32 x x1.p) x2.w) (fop .quo .f32 (fop .sub .f32 x x1.p) x2.w))))) (fop .quo .f32 x21.h (fop .add .f32 1065353216 (fop .mul .f32 (fop .quo .f32 (fop .sub .f32 x x1.p) x2.w) (fop .quo .f32 (fop .sub .f32 x x1.p) x2.w))))))))], none⟩
                              | false => (match (fcmp .lss .f32 (fop .quo .f32 (fop .sub .f32 x x1.p) x2.w) 0 : Bool) with
                                | true => (match (fcmp .gtr .f32 (fneg .f32 (fop .quo .f32 (fop .sub .f32 x x1.p) x2.w)) 1065353216 : Bool) with
                                  | true => some ⟨[.el (.sc (.fl .f32 0))], none⟩
                                  | false => (match (xs : List LineV)[j]? with
                                    | some x23 => some ⟨[.el (.sc (.fl .f32 (fop .mul .f32 x23.h (fop .sub .f32 1065353216 (fneg .f32 (fop .quo .f32 (fop .sub .f32 x x1.p) x2.w))))))], none⟩
                                    | none => none))
                                | false => (match (fcmp .gtr .f32 (fop .quo .f32 (fop .sub .f32 x x1.p) x2.w) 1065353216 : Bool) with
                                  | true => some ⟨[.el (.sc (.fl .f32 0))], none⟩
                                  | false => (match (xs : List LineV)[j]? with
                                    | some x24 => some ⟨[.el (.sc (.fl .f32 (fop .mul .f32 x24.h (fop .sub .f32 1065353216 (fop .quo .f32 (fop .sub .f32 x x1.p) x2.w)))))], none⟩
                                    | none => none))))))
                        | none => none)
                      | none => none)
                    | false => (match (xs : List LineV)[j]? with
                      | some x25 => (match ((x25.k : Int) == 2 : Bool) with
                        | true => (match (xs : List LineV)[j]? with
                          | some x26 => (match (xs : List LineV)[j]? with
                            | some x27 => (match ((x27.k : Int) == 0 : Bool) with
                              | true => some ⟨[.el (.sc (.fl .f32 (fop .mul .f32 x19.h (expF (fop .sub .f32 0 (fop .mul .f32 (fop .quo .f32 (fop .sub .f32 x x1.p) x2.w) (fop .quo .f32 (fop .sub .f32 x x1.p) x2.w)))))))], none⟩
                              | false => (match ((x27.k : Int) == 1 : Bool) with
                                | true => some ⟨[.el (.sc (.fl .f32 (fop .quo .f32 x26.h (fop .add .f32 1065353216 (fop .mul .f32 (fop .quo .f32 (fop .sub .f32 x x1.p) x2.w) (fop .quo .f32 (fop .sub .f32 x x1.p) x2.w))))))], none⟩
                                | false => (match ((x27.k : Int) == 2 : Bool) with
                                  | true => some ⟨[.el (.sc (.fl .f32 (fop .mul .f32 1056964608 (fop .add .f32 (fop .mul .f32 x19.h (expF (fop .sub .f32 0 (fop .mul .f32 (fop .quo .f32 (fop .sub .f32 x x1.p) x2.w) (fop .quo .f32 (fop .sub .f32 x x1.p) x2.w))))) (fop .quo .f32 x26.h (fop .add .f32 1065353216 (fop .mul .f32 (fop .quo .f32 (fop .sub .f32 x x1.p) x2.w) (fop .quo .f32 (fop .sub .f32 x x1.p) x2.w))))))))], none⟩
                                  | false => (match (fcmp .lss .f32 (fop .quo .f32 (fop .sub .f32 x x1.p) x2.w) 0 : Bool) with
                                    | true => (match (fcmp .gtr .f32 (fneg .f32 (fop .quo .f32 (fop .sub .f32 x x1.p) x2.w)) 1065353216 : Bool) with
                                      | true => some ⟨[.el (.sc (.fl .f32 0))], none⟩
                                      | false => (match (xs : List LineV)[j]? with
                                        | some x28 => some ⟨[.el (.sc (.fl .f32 (fop .mul .f32 x28.h (fop .sub .f32 1065353216 (fneg .f32 (fop .quo .f32 (fop .sub .f32 x x1.p) x2.w))))))], none⟩
                                        | none => none))
                                    | false => (match (fcmp .gtr .f32 (fop .quo .f32 (fop .sub .f32 x x1.p) x2.w) 1065353216 : Bool) with
                                      | true => some ⟨[.el (.sc (.fl .f32 0))], none⟩
                                      | false => (match (xs : List LineV)[j]? with
                                        | some x29 => some ⟨[.el (.sc (.fl .f32 (fop .mul .f32 x29.h (fop .sub .f32 1065353216 (fop .quo .f32 (fop .sub .f32 x x1.p) x2.w)))))], none⟩
                                        | none => none))))))
                            | none => none)
                          | none => none)
                        | false => (match (xs : List LineV)[j]? with
                          | some x30 => (match ((x30.k : Int) == 0 : Bool) with
                            | true => some ⟨[.el (.sc (.fl .f32 (fop .mul .f32 x19.h (expF (fop .sub .f32 0 (fop .mul .f32 (fop .quo .f32 (fop .sub .f32 x x1.p) x2.w) (fop .quo .f32 (fop .sub .f32 x x1.p) x2.w)))))))], none⟩
                            | false => (match ((x30.k : Int) == 1 : Bool) with
                              | true => some ⟨[.el (.sc (.fl .f32 0))], none⟩
                              | false => (match ((x30.k : Int) == 2 : Bool) with
                                | true => some ⟨[.el (.sc (.fl .f32 (fop .mul .f32 1056964608 (fop .add .f32 (fop .mul .f32 x19.h (expF (fop .sub .f32 0 (fop .mul .f32 (fop .quo .f32 (fop .sub .f32 x x1.p) x2.w) (fop .quo .f32 (fop .sub .f32 x x1.p) x2.w))))) 0))))], none⟩
                                | false => (match (fcmp .lss .f32 (fop .quo .f32 (fop .sub .f32 x x1.p) x2.w) 0 : Bool) with
                                  | true => (match (fcmp .gtr .f32 (fneg .f32 (fop .quo .f32 (fop .sub .f32 x x1.p) x2.w)) 1065353216 : Bool) with
                                    | true => some ⟨[.el (.sc (.fl .f32 0))], none⟩
                                    | false => (match (xs : List LineV)[j]? with
                                      | some x31 => some ⟨[.el (.sc (.fl .f32 (fop .mul .f32 x31.h (fop .sub .f32 1065353216 (fneg .f32 (fop .quo .f32 (fop .sub .f32 x x1.p) x2.w))))))], none⟩
                                      | none => none))
                                  | false => (match (fcmp .gtr .f32 (fop .quo .f32 (fop .sub .f32 x x1.p) x2.w) 1065353216 : Bool) with
                                    | true => some ⟨[.el (.sc (.fl .f32 0))], none⟩
                                    | false => (match (xs : List LineV)[j]? with
                                      | some x32 => some ⟨[.el (.sc (.fl .f32 (fop .mul .f32 x32.h (fop .sub .f32 1065353216 (fop .quo .f32 (fop .sub .f32 x x1.p) x2.w)))))], none⟩
                                      | none => none))))))
                          | none => none))
                      | none => none))
                  | none => none)
                | false => none)
              | none => none)
            | false => (match (xs : List LineV)[j]? with
              | some x33 => (match ((x33.k : Int) == 1 : Bool) with
                | true => (match (xs : List LineV)[j]? with
                  | some x34 => (match (xs : List LineV)[j]? with
                    | some x35 => (match ((x35.k : Int) == 0 : Bool) with
                      | true => some ⟨[.el (.sc (.fl .f32 0))], none⟩
                      | false => (match ((x35.k : Int) == 1 : Bool) with
                        | true => some ⟨[.el (.sc (.fl .f32 (fop .quo .f32 x34.h (fop .add .f32 1065353216 (fop .mul .f32 (fop .quo .f32 (fop .sub .f32 x x1.p) x2.w) (fop .quo .f32 (fop .sub .f32 x x1.p) x2.w))))))], none⟩
                        | false => (match ((x35.k : Int) == 2 : Bool) with
                          | true => some ⟨[.el (.sc (.fl .f32 (fop .mul .f32 1056964608 (fop .add .f32 0 (fop .quo .f32 x34.h (fop .add .f32 1065353216 (fop .mul .f32 (fop .quo .f32 (fop .sub .f32 x x1.p) x2.w) (fop .quo .f32 (fop .sub .f32 x x1.p) x2.w))))))))], none⟩
                          | false => (match (fcmp .lss .f32 (fop .quo .f32 (fop .sub .f32 x x1.p) x2.w) 0 : Bool) with
                            | true => (match (fcmp .gtr .f32 (fneg .f32 (fop .quo .f32 (fop .sub .f32 x x1.p) x2.w)) 1065353216 : Bool) with
                              | true => some ⟨[.el (.sc (.fl .f32 0))], none⟩
                              | false => (match (xs : List LineV)[j]? with
                                | some x36 => some ⟨[.el (.sc (.fl .f32 (fop .mul .f32 x36.h (fop .sub .f32 1065353216 (fneg .f32 (fop .quo .f32 (fop .sub .f32 x x1.p) x2.w))))))], none⟩
                                | none => none))
                            | false => (match (fcmp .gtr .f32 (fop .quo .f32 (fop .sub .f32 x x1.p) x2.w) 1065353216 : Bool) with
                              | true => some ⟨[.el (.sc (.fl .f32 0))], none⟩
                              | false => (match (xs : List LineV)[j]? with
                                | some x37 => some ⟨[.el (.sc (.fl .f32 (fop .mul .f32 x37.h (fop .sub .f32 1065353216 (fop .quo .f32 (fop .sub .f32 x x1.p) x2.w)))))], none⟩
                                | none => none))))))
                    | none => none)
                  | none => none)
                | false => (match (xs : List LineV)[j]? with
                  | some x38 => (match ((x38.k : Int) == 2 : Bool) with
                    | true => (match (xs : List LineV)[j]? with
                      | some x39 => (match (xs : List LineV)[j]? with
                        | some x40 => (match ((x40.k : Int) == 0 : Bool) with
                          | true => some ⟨[.el (.sc (.fl .f32 0))], none⟩
                          | false => (match ((x40.k : Int) == 1 : Bool) with
                            | true => some ⟨[.el (.sc (.fl .f32 (fop .quo .f32 x39.h (fop .add .f32 1065353216 (fop .mul .f32 (fop .quo .f32 (fop .sub .f32 x x1.p) x2.w) (fop .quo .f32 (fop .sub .f32 x x1.p) x2.w))))))], none⟩
                            | false => (match ((x40.k : Int) == 2 : Bool) with
                              | true => some ⟨[.el (.sc (.fl .f32 (fop .mul .f32 1056964608 (fop .add .f32 0 (fop .quo .f32 x39.h (fop .add .f32 1065353216 (fop .mul .f32 (fop .quo .f32 (fop .sub .f32 x x1.p) x2.w) (fop .quo .f32 (fop .sub .f32 x x1.p) x2.w))))))))], none⟩
                              | false => (match (fcmp .lss .f32 (fop .quo .f32 (fop .sub .f32 x x1.p) x2.w) 0 : Bool) with
                                | true => (match (fcmp .gtr .f32 (fneg .f32 (fop .quo .f32 (fop .sub .f32 x x1.p) x2.w)) 1065353216 : Bool) with
                                  | true => some ⟨[.el (.sc (.fl .f32 0))], none⟩
                                  | false => (match (xs : List LineV)[j]? with
                                    | some x41 => some ⟨[.el (.sc (.fl .f32 (fop .mul .f32 x41.h (fop .sub .f32 1065353216 (fneg .f32 (fop .quo .f32 (fop .sub .f32 x x1.p) x2.w))))))], none⟩
                                    | none => none))
                                | false => (match (fcmp .gtr .f32 (fop .quo .f32 (fop .sub .f32 x x1.p) x2.w) 1065353216 : Bool) with
                                  | true => some ⟨[.el (.sc (.fl .f32 0))], none⟩
                                  | false => (match (xs : List LineV)[j]? with
                                    | some x42 => some ⟨[.el (.sc (.fl .f32 (fop .mul .f32 x42.h (fop .sub .f32 1065353216 (fop .quo .f32 (fop .sub .f32 x x1.p) x2.w)))))], none⟩
                                    | none => none))))))
                        | none => none)
                      | none => none)
                    | false => (match (xs : List LineV)[j]? with
                      | some x43 => (match ((x43.k : Int) == 0 : Bool) with
                        | true => some ⟨[.el (.sc (.fl .f32 0))], none⟩
                        | false => (match ((x43.k : Int) == 1 : Bool) with
                          | true => some ⟨[.el (.sc (.fl .f32 0))], none⟩
                          | false => (match ((x43.k : Int) == 2 : Bool) with
                            | true => some ⟨[.el (.sc (.fl .f32 (fop .mul .f32 1056964608 (fop .add .f32 0 0))))], none⟩
                            | false => (match (fcmp .lss .f32 (fop .quo .f32 (fop .sub .f32 x x1.p) x2.w) 0 : Bool) with
                              | true => (match (fcmp .gtr .f32 (fneg .f32 (fop .quo .f32 (fop .sub .f32 x x1.p) x2.w)) 1065353216 : Bool) with
                                | true => some ⟨[.el (.sc (.fl .f32 0))], none⟩
                                | false => (match (xs : List LineV)[j]? with
                                  | some x44 => some ⟨[.el (.sc (.fl .f32 (fop .mul .f32 x44.h (fop .sub .f32 1065353216 (fneg .f32 (fop .quo .f32 (fop .sub .f32 x x1.p) x2.w))))))], none⟩
                                  | none => none))
                              | false => (match (fcmp .gtr .f32 (fop .quo .f32 (fop .sub .f32 x x1.p) x2.w) 1065353216 : Bool) with
                                | true => some ⟨[.el (.sc (.fl .f32 0))], none⟩
                                | false => (match (xs : List LineV)[j]? with
                                  | some x45 => some ⟨[.el (.sc (.fl .f32 (fop .mul .f32 x45.h (fop .sub .f32 1065353216 (fop .quo .f32 (fop .sub .f32 x x1.p) x2.w)))))], none⟩
                                  | none => none))))))
                      | none => none))
                  | none => none))
              | none => none))
          | none => none))
      | none => none)
    | none => none)
  | none => none) := by kernel_rfl
theorem s37 (xs : List LineV) (j : Nat) (x : Nat) : runFn T4 none0 noL Try.f37 [.pt ⟨.v ⟨.line, xs⟩, 4, j, 0⟩, .el (.sc (.fl .f32 x))] = (match xs[j]? with
  | some l => some ⟨[.el (.sc (.fl .f32 (lineV l x)))], none⟩
  | none => none) := by
  rw [e37]
  cases h : xs[j]? with
  | none => simp [h]
  | some l =>
    obtain ⟨lp, lh, lw, lk⟩ := l
    simp only [h]
    have hex := neg_sq_ok (fop .quo .f32 (fop .sub .f32 x lp) lw)
    simp only [hex]
    unfold lineV bellV hillV lineU
    dsimp only
    unfold mag
    cases h0 : lk == 0 with
    | true =>
      have : lk = 0 := eq_of_beq h0
      subst this
      rfl
    | false =>
      cases h1 : lk == 1 with
      | true =>
        have : lk = 1 := eq_of_beq h1
        subst this
        rfl
      | false =>
        cases h2 : lk == 2 with
        | true =>
          have : lk = 2 := eq_of_beq h2
          subst this
          rfl
        | false =>
          simp only [cond_false]
          cases fcmp .lss .f32 (fop .quo .f32 (fop .sub .f32 x lp) lw) 0 with
          | true => cases fcmp .gtr .f32 (fneg .f32 (fop .quo .f32 (fop .sub .f32 x lp) lw)) 1065353216 <;> rfl
          | false => cases fcmp .gtr .f32 (fop .quo .f32 (fop .sub .f32 x lp) lw) 1065353216 <;> rfl
theorem c37 (xs : List LineV) (j : Nat) (x : Nat) (k : List RV → R) (out : Out) (h : (match xs[j]? with
  | some l => k [.el (.sc (.fl .f32 (lineV l x)))]
  | none => none) = some out) : ∃ rs, Real Try.prog 37 ∧ COK Try.prog 37 [.pt ⟨.v ⟨.line, xs⟩, 4, j, 0⟩, .el (.sc (.fl .f32 x))] rs ∧ k rs = some out := by
  cases g0 : (xs[j]?) with
  | some l =>
    rw [g0] at h
    exact ⟨_, real Try.func37 (by kernel_rfl), fn_ok tok4 (A := none0) (L := noL) (r := none) Try.func37 (by kernel_rfl) (by kernel_rfl) (loops0 (by kernel_rfl)) (by rw [s37, g0]), h⟩
  | none =>
    rw [g0] at h
    cases h

/-! impl.areFinite -/
theorem e39 (xs : List Nat) : runFn T4 none0 noL Try.f39 [.vw none ⟨.f32, xs⟩] = (match (Nat.ble xs.length big : Bool) with
  | true => some ⟨[.el (.sc (.bo (!(xs.any notFin))))], none⟩
  | false => none) := by kernel_rfl
theorem s39 (xs : List Nat) : runFn T4 none0 noL Try.f39 [.vw none ⟨.f32, xs⟩] = (match (Nat.ble xs.length big : Bool) with
  | true => some ⟨[.el (.sc (.bo (xs.all fin)))], none⟩
  | false => none) := by
  rw [e39]
  rw [notFin_fun, not_any]
theorem c39 (xs : List Nat) (k : List RV → R) (out : Out) (h : (match (Nat.ble xs.length big : Bool) with
  | true => k [.el (.sc (.bo (xs.all fin)))]
  | false => none) = some out) : ∃ rs, Real Try.prog 39 ∧ COK Try.prog 39 [.vw none ⟨.f32, xs⟩] rs ∧ k rs = some out := by
  cases g0 : (Nat.ble xs.length big : Bool) with
  | true =>
    rw [g0] at h
    exact ⟨_, real Try.func39 (by kernel_rfl), fn_ok tok4 (A := none0) (L := noL) (r := none) Try.func39 (by kernel_rfl) (by kernel_rfl) (loops0 (by kernel_rfl)) (by rw [s39, g0]), h⟩
  | false =>
    rw [g0] at h
    cases h

/-! impl.arePositive -/
theorem e53 (xs : List Nat) : runFn T4 none0 noL Try.f53 [.vw none ⟨.f32, xs⟩] = (match (Nat.ble xs.length big : Bool) with
  | true => some ⟨[.el (.sc (.bo (!(xs.any notPos))))], none⟩
  | false => none) := by kernel_rfl
theorem s53 (xs : List Nat) : runFn T4 none0 noL Try.f53 [.vw none ⟨.f32, xs⟩] = (match (Nat.ble xs.length big : Bool) with
  | true => some ⟨[.el (.sc (.bo (xs.all above)))], none⟩
  | false => none) := by
  rw [e53]
  rw [notPos_fun, not_any]
theorem c53 (xs : List Nat) (k : List RV → R) (out : Out) (h : (match (Nat.ble xs.length big : Bool) with
  | true => k [.el (.sc (.bo (xs.all above)))]
  | false => none) = some out) : ∃ rs, Real Try.prog 53 ∧ COK Try.prog 53 [.vw none ⟨.f32, xs⟩] rs ∧ k rs = some out := by
  cases g0 : (Nat.ble xs.length big : Bool) with
  | true =>
    rw [g0] at h
    exact ⟨_, real Try.func53 (by kernel_rfl), fn_ok tok4 (A := none0) (L := noL) (r := none) Try.func53 (by kernel_rfl) (by kernel_rfl) (loops0 (by kernel_rfl)) (by rw [s53, g0]), h⟩
  | false =>
    rw [g0] at h
    cases h

/-! impl.lineAt -/
theorem e66 (lp : Nat) (lh : Nat) (lw : Nat) (lk : Int) (x : Nat) : runFn T4 none0 noL Try.f66 [.el (.ag [(.fl .f32 lp), (.fl .f32 lh), (.fl .f32 lw), (.int .i64 lk)]), .el (.sc (.fl .f32 x))] = (match (expOk (fop .sub .f32 0 (fop .mul .f32 (fop .quo .f32 (fop .sub .f32 x lp) lw) (fop .quo .f32 (fop .sub .f32 x lp) lw))) : Bool) with
  | true => (match ((lk : Int) == 0 : Bool) with
    | true => some ⟨[.el (.sc (.fl .f32 (fop .mul .f32 lh (expF (fop .sub .f32 0 (fop .mul .f32 (fop .quo .f32 (fop .sub .f32 x lp) lw) (fop .quo .f32 (fop .sub .f32 x lp) lw)))))))], none⟩
    | false => (match ((lk : Int) == 1 : Bool) with
      | true => some ⟨[.el (.sc (.fl .f32 (fop .quo .f32 lh (fop .add .f32 1065353216 (fop .mul .f32 (fop .quo .f32 (fop .sub .f32 x lp) lw) (fop .quo .f32 (fop .sub .f32 x lp) lw))))))], none⟩
      | false => (match ((lk : Int) == 2 : Bool) with
        | true => some ⟨[.el (.sc (.fl .f32 (fop .mul .f32 1056964608 (fop .add .f32 (fop .mul .f32 lh (expF (fop .sub .f32 0 (fop .mul .f32 (fop .quo .f32 (fop .sub .f32 x lp) lw) (fop .quo .f32 (fop .sub .f32 x lp) lw))))) (fop .quo .f32 lh (fop .add .f32 1065353216 (fop .mul .f32 (fop .quo .f32 (fop .sub .f32 x lp) lw) (fop .quo .f32 (fop .sub .f32 x lp) lw))))))))], none⟩
        | false => (match (fcmp .gtr .f32 (mag (fop .quo .f32 (fop .sub .f32 x lp) lw)) 1065353216 : Bool) with
          | true => some ⟨[.el (.sc (.fl .f32 0))], none⟩
          | false => some ⟨[.el (.sc (.fl .f32 (fop .mul .f32 lh (fop .sub .f32 1065353216 (mag (fop .quo .f32 (fop .sub .f32 x lp) lw))))))], none⟩))))
  | false => none) := by kernel_rfl
theorem s66 (lp : Nat) (lh : Nat) (lw : Nat) (lk : Int) (x : Nat) : runFn T4 none0 noL Try.f66 [.el (.ag [(.fl .f32 lp), (.fl .f32 lh), (.fl .f32 lw), (.int .i64 lk)]), .el (.sc (.fl .f32 x))] = some ⟨[.el (.sc (.fl .f32 (lineV ((⟨lp, lh, lw, lk⟩ : LineV)) x)))], none⟩ := by
  rw [e66]
  have hex := neg_sq_ok (fop .quo .f32 (fop .sub .f32 x lp) lw)
  simp only [hex]
  unfold lineV bellV hillV lineU
  dsimp only
  cases lk == 0 <;> cases lk == 1 <;> cases lk == 2 <;> simp only [cond_true, cond_false] <;> cases fcmp .gtr .f32 (mag (fop .quo .f32 (fop .sub .f32 x lp) lw)) 1065353216 <;> rfl
theorem c66 (lp : Nat) (lh : Nat) (lw : Nat) (lk : Int) (x : Nat) (k : List RV → R) (out : Out) (h : k [.el (.sc (.fl .f32 (lineV ((⟨lp, lh, lw, lk⟩ : LineV)) x)))] = some out) : ∃ rs, Real Try.prog 66 ∧ COK Try.prog 66 [.el (.ag [(.fl .f32 lp), (.fl .f32 lh), (.fl .f32 lw), (.int .i64 lk)]), .el (.sc (.fl .f32 x))] rs ∧ k rs = some out := by
  exact ⟨_, real Try.func66 (by kernel_rfl), fn_ok tok4 (A := none0) (L := noL) (r := none) Try.func66 (by kernel_rfl) (by kernel_rfl) (loops0 (by kernel_rfl)) (by rw [s66]), h⟩

def S5 : SFn := fun f args k => match f, args with
  | 37, [.pt ⟨.v ⟨.line, xs⟩, 4, j, 0⟩, .el (.sc (.fl .f32 x))] => (match xs[j]? with
    | some l => k [.el (.sc (.fl .f32 (lineV l x)))]
    | none => none)
  | 39, [.vw none ⟨.f32, xs⟩] => (match (Nat.ble xs.length big : Bool) with
    | true => k [.el (.sc (.bo (xs.all fin)))]
    | false => none)
  | 53, [.vw none ⟨.f32, xs⟩] => (match (Nat.ble xs.length big : Bool) with
    | true => k [.el (.sc (.bo (xs.all above)))]
    | false => none)
  | 66, [.el (.ag [(.fl .f32 lp), (.fl .f32 lh), (.fl .f32 lw), (.int .i64 lk)]), .el (.sc (.fl .f32 x))] => k [.el (.sc (.fl .f32 (lineV ((⟨lp, lh, lw, lk⟩ : LineV)) x)))]
  | _, _ => S4 f args k
abbrev M5 : MFn := M4
def T5 : TT := tab.T S5 muts M5
theorem tok5 : TOK Try.prog T5 := by
  refine (tab_ok tabok).tok (fun f args k out h => ?_) (fun f vec args k out h => ?_)
  · change S5 f args k = some out at h
    unfold S5 at h
    split at h
    · exact (fun k out h => cok_call (c37 _ _ _ k out h)) k out h
    · exact (fun k out h => cok_call (c39 _ k out h)) k out h
    · exact (fun k out h => cok_call (c53 _ k out h)) k out h
    · exact (fun k out h => cok_call (c66 _ _ _ _ _ k out h)) k out h
    · exact tok4.S f args k out h
  · exact tok4.M f vec args k out h

end Go.Sm.Ytpckpfbjhnllbaa
