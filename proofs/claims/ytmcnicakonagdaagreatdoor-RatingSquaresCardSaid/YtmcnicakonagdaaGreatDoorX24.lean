import Derived.Test.YtmcnicakonagdaaGreatDoorX23
/- A part of a proof (no law is stated here). Made by program out of texts by AI agents. -/

