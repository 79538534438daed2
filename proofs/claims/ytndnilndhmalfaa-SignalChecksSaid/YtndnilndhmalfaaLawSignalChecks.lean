/-
  SignalChecks: the plain law (in LawA).
-/
import Derived.Test.YtndnilndhmalfaaLawA
