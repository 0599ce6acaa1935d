/-
  No library function is laid at this program. Conditions: none.
-/
import Derived.Test.YtjpkmpihmilgoaaProg
