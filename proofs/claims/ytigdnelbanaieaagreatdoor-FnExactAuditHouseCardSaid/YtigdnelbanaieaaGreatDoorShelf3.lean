/-
  Contracts of library functions at this seat.
  No conditions.
-/
import Derived.Test.YtigdnelbanaieaaGreatDoorShelf
