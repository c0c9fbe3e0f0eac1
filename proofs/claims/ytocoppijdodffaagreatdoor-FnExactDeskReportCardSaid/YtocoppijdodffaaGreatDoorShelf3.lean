/-
  The shelf once more.
  No conditions.
-/
import Derived.Test.YtocoppijdodffaaGreatDoorShelf

