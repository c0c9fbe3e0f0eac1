/-
  Contracts of library functions at this seat: they stand in Shelf.
  No conditions.
-/
import Derived.Test.YtlkjechbejfnhaaGreatDoorShelf
